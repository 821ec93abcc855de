/- Lemmas about the evaluator of the code. -/
import Derived.Test.YtcmnaaopgffjdaaWakU
set_option linter.all false
set_option linter.deprecated false
set_option maxRecDepth 1000000
set_option maxHeartbeats 4000000
namespace Go.Proofs.TabU
open Go Go.Eng
/-! ## The page's own Parse -/
abbrev sp1 : ByteArray := { data := #[32] }
theorem byteAt_left {a b : ByteArray} {i : Nat} (h : i < a.size) : byteAt (a ++ b) i = byteAt a i := by
  unfold byteAt
  rw [ba_list, List.getD_eq_getElem?_getD, List.getD_eq_getElem?_getD, List.getElem?_append_left (by rw [← size_list]; exact h)]
theorem byteAt_right {a b : ByteArray} {i : Nat} : byteAt (a ++ b) (a.size + i) = byteAt b i := by
  unfold byteAt
  rw [ba_list, List.getD_eq_getElem?_getD, List.getD_eq_getElem?_getD, List.getElem?_append_right (by rw [← size_list]; omega), ← size_list]
  congr 4; omega
abbrev okZ (Z : ByteArray) : Prop := 4 ≤ (↑(ByteArray.size Z) : Int) ∧ 50 ≤ byteAt Z 0 ∧ byteAt Z 0 ≤ 53 ∧ 48 ≤ byteAt Z 1 ∧ byteAt Z 1 ≤ 57 ∧ 48 ≤ byteAt Z 2 ∧ byteAt Z 2 ≤ 57 ∧ (byteAt Z 3 = 32 ∨ byteAt Z 3 = 45) ∧ wdO (ByteArray.extract Z 4 (ByteArray.size Z)) = true
structure ZOf (X Z : ByteArray) : Prop where
  o : lnO X = true ↔ okZ Z
  m : lnM X = (byteAt Z 3 == 45)
  t : lnT X = ByteArray.extract Z 4 (ByteArray.size Z)
  c : lnC X = lnCV Z
theorem ext_0 {Z : ByteArray} (h : Z.size = 4) : ByteArray.extract Z 4 (ByteArray.size Z) = ByteArray.empty := by
  refine ByteArray.ext (Array.ext' ?_)
  rw [ByteArray.data_extract, Array.toList_extract, List.extract_eq_take_drop, List.drop_eq_nil_of_le (by rw [← size_list]; omega), List.take_nil]
  rfl
theorem wd_0 : wdO ByteArray.empty = true := by rw [wdO_eq]; rfl
theorem sp1_size (X : ByteArray) : (X ++ sp1).size = X.size + 1 := by rw [ba_size]; rfl
theorem z3 {X : ByteArray} (h : X.size = 3) : ZOf X (X ++ sp1) := by
  have hs : (X ++ sp1).size = 4 := by rw [sp1_size]; omega
  have y0 : byteAt (X ++ sp1) 0 = byteAt X 0 := byteAt_left (by omega)
  have y1 : byteAt (X ++ sp1) 1 = byteAt X 1 := byteAt_left (by omega)
  have y2 : byteAt (X ++ sp1) 2 = byteAt X 2 := byteAt_left (by omega)
  have y3 : byteAt (X ++ sp1) 3 = 32 := by
    have := byteAt_right (a := X) (b := sp1) (i := 0)
    rw [h] at this
    exact this
  refine ⟨?_, ?_, ?_, ?_⟩
  · unfold okZ
    rw [lnO_eq, decide_eq_true_iff, y0, y1, y2, y3, ext_0 hs]
    constructor
    · rintro ⟨q1, q2, q3, q4, q5⟩
      exact ⟨by omega, by omega, by omega, by omega, by omega, by omega, by omega, .inl rfl, wd_0⟩
    · rintro ⟨q1, q2, q3, q4, q5, q6, q7, q8, q9⟩
      exact ⟨by omega, by omega, by omega, by omega, .inl h⟩
  · rw [lnM_eq, if_pos h, y3]; rfl
  · rw [lnT_eq, if_pos h, ext_0 hs]
  · rw [lnC_eq]; unfold lnCV; rw [y0, y1, y2]
theorem z4 {X : ByteArray} (h : X.size ≠ 3) : ZOf X X := by
  refine ⟨?_, ?_, ?_, ?_⟩
  · rw [lnO_eq, decide_eq_true_iff]
    constructor
    · rintro ⟨q1, q2, q3, q4, q5⟩
      rcases q5 with q5 | ⟨q5, q6⟩
      · exact absurd q5 h
      · exact ⟨by omega, by omega, by omega, by omega, by omega, by omega, by omega, q5, q6⟩
    · rintro ⟨q1, q2, q3, q4, q5, q6, q7, q8, q9⟩
      exact ⟨by omega, by omega, by omega, by omega, .inr ⟨q8, q9⟩⟩
  · rw [lnM_eq, if_neg h]
  · rw [lnT_eq, if_neg h]; rfl
  · rw [lnC_eq]
theorem cod2 {Z : ByteArray} (h : 50 ≤ byteAt Z 0 ∧ byteAt Z 0 ≤ 53 ∧ 48 ≤ byteAt Z 1 ∧ byteAt Z 1 ≤ 57 ∧ 48 ≤ byteAt Z 2 ∧ byteAt Z 2 ≤ 57) :
    wr .i64 (wr .i64 (wr .i64 (100 * wr .i64 (wr .u8 (byteAt Z 0 - 48))) + wr .i64 (10 * wr .i64 (wr .u8 (byteAt Z 1 - 48)))) + wr .i64 (wr .u8 (byteAt Z 2 - 48))) = lnCV Z := by
  have e : ∀ x : Int, 48 ≤ x ∧ x ≤ 57 → wr .u8 (x - 48) = x - 48 := fun x hx => by show (x - 48) % 256 = _; omega
  unfold lnCV
  rw [e _ ⟨by omega, by omega⟩, e _ ⟨h.2.2.1, h.2.2.2.1⟩, e _ ⟨h.2.2.2.2.1, h.2.2.2.2.2⟩]
  generalize byteAt Z 0 = a at *
  generalize byteAt Z 1 = b at *
  generalize byteAt Z 2 = d at *
  rw [wr64 (n := a - 48) (by omega) (by omega), wr64 (n := b - 48) (by omega) (by omega), wr64 (n := d - 48) (by omega) (by omega), wr64 (n := 100 * (a - 48)) (by omega) (by omega), wr64 (n := 10 * (b - 48)) (by omega) (by omega), wr64 (n := 100 * (a - 48) + 10 * (b - 48)) (by omega) (by omega), wr64 (by omega) (by omega)]
section
variable {X Z : ByteArray} {t : List ByteArray} {first : Bool} {c R : Int}
theorem pg_E (hz : ZOf X Z) (hr : rdV (X :: t) first true c = R) (h : ¬ okZ Z) : R = 1 := by
  have : lnO X = false := by
    cases hh : lnO X with
    | false => rfl
    | true => exact absurd (hz.o.1 hh) h
  unfold rdV at hr
  rw [this, Bool.false_and, if_neg (by decide)] at hr
  exact hr.symm
theorem pg_C (hz : ZOf X Z) (hr : rdV (X :: t) false true c = R) (hd : 50 ≤ byteAt Z 0 ∧ byteAt Z 0 ≤ 53 ∧ 48 ≤ byteAt Z 1 ∧ byteAt Z 1 ≤ 57 ∧ 48 ≤ byteAt Z 2 ∧ byteAt Z 2 ≤ 57) (h : wr .i64 (wr .i64 (wr .i64 (100 * wr .i64 (wr .u8 (byteAt Z 0 - 48))) + wr .i64 (10 * wr .i64 (wr .u8 (byteAt Z 1 - 48)))) + wr .i64 (wr .u8 (byteAt Z 2 - 48))) ≠ c) : R = 1 := by
  rw [cod2 hd, ← hz.c] at h
  unfold rdV at hr
  rw [if_neg (by simp [h])] at hr
  exact hr.symm
theorem pg_L (hz : ZOf X Z) (hr : rdV (X :: t) first true c = R) (h : byteAt Z 3 ≠ 45) (ht : t ≠ []) : R = 1 := by
  have hm : lnM X = false := by rw [hz.m]; exact beq_eq_false_iff_ne.2 h
  unfold rdV at hr
  rw [hm] at hr
  split at hr
  · cases t with
    | nil => exact absurd rfl ht
    | cons y t =>
      unfold rdV at hr
      rw [Bool.false_and, Bool.false_or, Bool.and_false, if_neg (by decide)] at hr
      exact hr.symm
  · exact hr.symm
theorem pg_N (hz : ZOf X Z) (hr : rdV (X :: t) first true c = R) (h : okZ Z) (hf : first = true ∨ wr .i64 (wr .i64 (wr .i64 (100 * wr .i64 (wr .u8 (byteAt Z 0 - 48))) + wr .i64 (10 * wr .i64 (wr .u8 (byteAt Z 1 - 48)))) + wr .i64 (wr .u8 (byteAt Z 2 - 48))) = c) : rdV t false (lnM X) (lnC X) = R ∧ wr .i64 (wr .i64 (wr .i64 (100 * wr .i64 (wr .u8 (byteAt Z 0 - 48))) + wr .i64 (10 * wr .i64 (wr .u8 (byteAt Z 1 - 48)))) + wr .i64 (wr .u8 (byteAt Z 2 - 48))) = lnC X := by
  have e : wr .i64 (wr .i64 (wr .i64 (100 * wr .i64 (wr .u8 (byteAt Z 0 - 48))) + wr .i64 (10 * wr .i64 (wr .u8 (byteAt Z 1 - 48)))) + wr .i64 (wr .u8 (byteAt Z 2 - 48))) = lnC X := by rw [hz.c]; exact cod2 ⟨h.2.1, h.2.2.1, h.2.2.2.1, h.2.2.2.2.1, h.2.2.2.2.2.1, h.2.2.2.2.2.2.1⟩
  refine ⟨?_, e⟩
  unfold rdV at hr
  rw [hz.o.2 h, if_pos (by rcases hf with rfl | hf
                           · rfl
                           · rw [← hf, e]; simp)] at hr
  exact hr
end
theorem rdT_next {l : List ByteArray} {i n : Nat} {Z : ByteArray} (hl : okL l n) (hi : (i : Int) < n) (h0 : 0 < i) (ht : lnT (List.getD l (0 + Int.toNat (↑i : Int)) ByteArray.empty) = ByteArray.extract Z 4 (ByteArray.size Z)) :
    List.take i (List.drop 0 (rdT l i)) ++ [ByteArray.extract Z 4 (ByteArray.size Z)] = rdT l (i + 1) := by
  have := take_at hl hi
  have hll := hl.1
  rw [rdT_eq, rdT_eq, ← this, List.map_append, List.drop_zero, List.take_of_length_le (by rw [List.length_map, List.length_take]; omega), ← ht]
  rfl
def I9 (nl : Bool) (n : Nat) (cap : Option Nat) (l : List ByteArray) (mm : Nat) (st : St3) : Prop :=
  ∃ i : Nat, i ≤ n ∧ n ≤ 16 ∧ mm = n - i ∧ ((i = 0 ∧ rdV l true true 0 = rdE l n ∧ st = ([.sl 0 0 n cap, .ptr 1 0 0, .ptr 2 0 0, .b true, iv i], 1, [.ro nl n [.cs l], .own 26 2 [iv 0, .v (.slice none 0 0)], .own 26 2 [iv 0, .v (.slice none 0 0)]])) ∨ (0 < i ∧ ∃ opn : Bool, (i < n → opn = true) ∧ rdV (l.drop i) false opn (rdC l i) = rdE l n ∧ st = ([.sl 0 0 n cap, .ptr 1 0 0, .ptr 2 0 0, .b opn, iv i], 1, [.ro nl n [.cs l], .own 26 2 [iv 0, .v (.slice none 0 0)], .own 26 2 [iv (rdC l i), .sl 3 0 i none], .vec 9 i [.cs (rdT l i)]])))
theorem s9a3 {nl : Bool} {n : Nat} {cap : Option Nat} {l : List ByteArray} {Q : An → Prop} (hq : rdE l n = 0 → Q (.tup [.agg [iv (rdC l n), .sl 1 0 n none], iv 0], [.vec 9 n [.cs (rdT l n)]])) (hp7 : rdE l n = 7 → Q (.tup [.agg [iv 0, .v (.slice none 0 0)], iv 7], [])) (hp1 : rdE l n = 1 → Q (.tup [.agg [iv 0, .v (.slice none 0 0)], iv 1], [])) (hl : okL l n) (hn : n ≤ 16) {i : Nat} (hi : (i : Int) < n) (h0i : i = 0) (hx3 : ByteArray.size (List.getD l (0 + Int.toNat (↑i : Int)) ByteArray.empty) = 3) (hr0 : rdV l true true 0 = rdE l n) :
    H (lawL S27 (fi9 false) 1 [1,1,1,1,0,1,0] 3 [.sl 0 0 n cap] ([.sl 0 0 n cap, .ptr 1 0 0, .ptr 2 0 0, .b true, iv i], 1, [.ro nl n [.cs l], .own 26 2 [iv 0, .v (.slice none 0 0)], .own 26 2 [iv 0, .v (.slice none 0 0)]])) (OkS (fun s' => ∃ m', m' < n - i ∧ I9 nl n cap l m' s') (OkY (fun x => Q (resV 1 x)) (fun _ => False))) F0 := by
  skip
  have hz : ZOf (List.getD l (0 + Int.toNat (↑i : Int)) ByteArray.empty) (List.getD l (0 + Int.toNat (↑i : Int)) ByteArray.empty ++ sp1) := z3 hx3
  have hs := hl.2.2 (0 + Int.toNat (i : Int))
  have hd := drop_at hl hi
  have hX1 : l.getD (0 + Int.toNat (i : Int)) ByteArray.empty = l.getD (i + 1 - 1) ByteArray.empty := by rw [show 0 + Int.toNat (i : Int) = i + 1 - 1 by omega]
  have wn1 : wr .i64 ((n : Int) - 1) = (n : Int) - 1 := wr64 (by omega) (by omega)
  have sz4 : ByteArray.size (List.getD l (0 + Int.toNat (↑i : Int)) ByteArray.empty ++ sp1) = ByteArray.size (List.getD l (0 + Int.toNat (↑i : Int)) ByteArray.empty) + 1 := sp1_size _
  have sp1s : ByteArray.size sp1 = 1 := rfl
  have hx : (↑(ByteArray.size (List.getD l (0 + Int.toNat (↑i : Int)) ByteArray.empty)) : Int) = 3 := by omega
  have hr : rdV ((List.getD l (0 + Int.toNat (↑i : Int)) ByteArray.empty) :: l.drop (i + 1)) true true 0 = rdE l n := by rw [← hd, h0i]; exact hr0
  have e1i : i + 1 = 1 := by omega
  have hd0 : l = (List.getD l (0 + Int.toNat (↑i : Int)) ByteArray.empty) :: l.drop (i + 1) := (show l = l.drop i by rw [h0i]; rfl).trans hd
  refine pL_Q (k := 1) ?_
  refine H.kd 1 (fun b => b) ((↑i : Int) < (↑n : Int)) (by (first | assumption | omega | exact Nat.ble_eq_true_of_le (by omega) | exact beq_self_eq_true _ | (rw [Nat.ble_eq_true_of_le (by omega)]; rfl))) (by kernel_rfl) ?_
  refine H.kd 2 (fun b => b) ((↑i : Int) < (↑n : Int)) (by (first | assumption | omega | exact Nat.ble_eq_true_of_le (by omega) | exact beq_self_eq_true _ | (rw [Nat.ble_eq_true_of_le (by omega)]; rfl))) (by kernel_rfl) ?_
  refine H.kl 0 (fun b => b) (0 + Int.toNat (↑i : Int)) (n) (by (first | assumption | omega | exact Nat.ble_eq_true_of_le (by omega) | exact beq_self_eq_true _ | (rw [Nat.ble_eq_true_of_le (by omega)]; rfl))) (by kernel_rfl) ?_
  refine H.ke 1 (fun b => b) ((↑(ByteArray.size (List.getD l (0 + Int.toNat (↑i : Int)) ByteArray.empty)) : Int)) (3) (by (first | assumption | omega | exact Nat.ble_eq_true_of_le (by omega) | exact beq_self_eq_true _ | (rw [Nat.ble_eq_true_of_le (by omega)]; rfl))) (by kernel_rfl) ?_
  refine H.sb 0 (fun b => b) (Nat.ble (ByteArray.size (List.getD l (0 + Int.toNat (↑i : Int)) ByteArray.empty) + ByteArray.size sp1) 9223372036854775807) (by kernel_rfl) (fun h1 => ?_) (fun h1 => ?_)
  ·
   refine H.nd 1 (fun b => (b == false)) ((↑(ByteArray.size (List.getD l (0 + Int.toNat (↑i : Int)) ByteArray.empty ++ sp1)) : Int) < 4) (by (first | assumption | omega | exact Nat.ble_eq_true_of_le (by omega) | exact beq_self_eq_true _ | (rw [Nat.ble_eq_true_of_le (by omega)]; rfl))) (by kernel_rfl) ?_
   refine H.kd 2 (fun b => b) ((↑(ByteArray.size (List.getD l (0 + Int.toNat (↑i : Int)) ByteArray.empty ++ sp1)) : Int) ≤ (↑(ByteArray.size (List.getD l (0 + Int.toNat (↑i : Int)) ByteArray.empty ++ sp1)) : Int)) (by (first | assumption | omega | exact Nat.ble_eq_true_of_le (by omega) | exact beq_self_eq_true _ | (rw [Nat.ble_eq_true_of_le (by omega)]; rfl))) (by kernel_rfl) ?_
   refine H.kd 1 (fun b => b) (4 ≤ (↑(ByteArray.size (List.getD l (0 + Int.toNat (↑i : Int)) ByteArray.empty ++ sp1)) : Int)) (by (first | assumption | omega | exact Nat.ble_eq_true_of_le (by omega) | exact beq_self_eq_true _ | (rw [Nat.ble_eq_true_of_le (by omega)]; rfl))) (by kernel_rfl) ?_
   refine H.sb 2 (fun b => b) (Nat.ble (ByteArray.size (ByteArray.extract (List.getD l (0 + Int.toNat (↑i : Int)) ByteArray.empty ++ sp1) 4 (ByteArray.size (List.getD l (0 + Int.toNat (↑i : Int)) ByteArray.empty ++ sp1)))) 10000) (by kernel_rfl) (fun h2 => ?_) (fun h2 => ?_)
   ·
    refine H.sb 3 (fun b => ((!b) == false)) (wdO (ByteArray.extract (List.getD l (0 + Int.toNat (↑i : Int)) ByteArray.empty ++ sp1) 4 (ByteArray.size (List.getD l (0 + Int.toNat (↑i : Int)) ByteArray.empty ++ sp1)))) (by kernel_rfl) (fun h3 => ?_) (fun h3 => ?_)
    ·
     refine H.kd 2 (fun b => b) (0 < (↑(ByteArray.size (List.getD l (0 + Int.toNat (↑i : Int)) ByteArray.empty ++ sp1)) : Int)) (by (first | assumption | omega | exact Nat.ble_eq_true_of_le (by omega) | exact beq_self_eq_true _ | (rw [Nat.ble_eq_true_of_le (by omega)]; rfl))) (by kernel_rfl) ?_
     refine H.sd 3 (fun b => (b == false)) (byteAt (List.getD l (0 + Int.toNat (↑i : Int)) ByteArray.empty ++ sp1) 0 < 50) (by kernel_rfl) (fun h4 => ?_) (fun h4 => ?_)
     ·
      refine H.lf (f := pL 1) 42 (Sum.inr (Sum.inl (AV.tup [AV.agg [AV.i IntKind.i64 0, AV.v (Value.slice none 0 0)], AV.i IntKind.i64 1], []))) (by kernel_rfl) ?_
      first | exact hp1 (pg_E hz hr (fun h => by obtain ⟨q1, q2, q3, q4, q5, q6, q7, q8, q9⟩ := h; first | omega | exact absurd (q9.symm.trans (show _ = false by assumption)) (by decide))) | exact hp1 (pg_L hz hr (by assumption) (by rw [← List.length_pos_iff, List.length_drop, hl.1]; omega))
     ·
      refine H.kd 2 (fun b => b) (0 < (↑(ByteArray.size (List.getD l (0 + Int.toNat (↑i : Int)) ByteArray.empty ++ sp1)) : Int)) (by (first | assumption | omega | exact Nat.ble_eq_true_of_le (by omega) | exact beq_self_eq_true _ | (rw [Nat.ble_eq_true_of_le (by omega)]; rfl))) (by kernel_rfl) ?_
      refine H.sd 3 (fun b => (b == false)) (byteAt (List.getD l (0 + Int.toNat (↑i : Int)) ByteArray.empty ++ sp1) 0 > 53) (by kernel_rfl) (fun h5 => ?_) (fun h5 => ?_)
      ·
       refine H.lf (f := pL 1) 38 (Sum.inr (Sum.inl (AV.tup [AV.agg [AV.i IntKind.i64 0, AV.v (Value.slice none 0 0)], AV.i IntKind.i64 1], []))) (by kernel_rfl) ?_
       first | exact hp1 (pg_E hz hr (fun h => by obtain ⟨q1, q2, q3, q4, q5, q6, q7, q8, q9⟩ := h; first | omega | exact absurd (q9.symm.trans (show _ = false by assumption)) (by decide))) | exact hp1 (pg_L hz hr (by assumption) (by rw [← List.length_pos_iff, List.length_drop, hl.1]; omega))
      ·
       refine H.kd 2 (fun b => b) (1 < (↑(ByteArray.size (List.getD l (0 + Int.toNat (↑i : Int)) ByteArray.empty ++ sp1)) : Int)) (by (first | assumption | omega | exact Nat.ble_eq_true_of_le (by omega) | exact beq_self_eq_true _ | (rw [Nat.ble_eq_true_of_le (by omega)]; rfl))) (by kernel_rfl) ?_
       refine H.sd 3 (fun b => (b == false)) (byteAt (List.getD l (0 + Int.toNat (↑i : Int)) ByteArray.empty ++ sp1) 1 < 48) (by kernel_rfl) (fun h6 => ?_) (fun h6 => ?_)
       ·
        refine H.lf (f := pL 1) 34 (Sum.inr (Sum.inl (AV.tup [AV.agg [AV.i IntKind.i64 0, AV.v (Value.slice none 0 0)], AV.i IntKind.i64 1], []))) (by kernel_rfl) ?_
        first | exact hp1 (pg_E hz hr (fun h => by obtain ⟨q1, q2, q3, q4, q5, q6, q7, q8, q9⟩ := h; first | omega | exact absurd (q9.symm.trans (show _ = false by assumption)) (by decide))) | exact hp1 (pg_L hz hr (by assumption) (by rw [← List.length_pos_iff, List.length_drop, hl.1]; omega))
       ·
        refine H.kd 2 (fun b => b) (1 < (↑(ByteArray.size (List.getD l (0 + Int.toNat (↑i : Int)) ByteArray.empty ++ sp1)) : Int)) (by (first | assumption | omega | exact Nat.ble_eq_true_of_le (by omega) | exact beq_self_eq_true _ | (rw [Nat.ble_eq_true_of_le (by omega)]; rfl))) (by kernel_rfl) ?_
        refine H.sd 3 (fun b => (b == false)) (byteAt (List.getD l (0 + Int.toNat (↑i : Int)) ByteArray.empty ++ sp1) 1 > 57) (by kernel_rfl) (fun h7 => ?_) (fun h7 => ?_)
        ·
         refine H.lf (f := pL 1) 30 (Sum.inr (Sum.inl (AV.tup [AV.agg [AV.i IntKind.i64 0, AV.v (Value.slice none 0 0)], AV.i IntKind.i64 1], []))) (by kernel_rfl) ?_
         first | exact hp1 (pg_E hz hr (fun h => by obtain ⟨q1, q2, q3, q4, q5, q6, q7, q8, q9⟩ := h; first | omega | exact absurd (q9.symm.trans (show _ = false by assumption)) (by decide))) | exact hp1 (pg_L hz hr (by assumption) (by rw [← List.length_pos_iff, List.length_drop, hl.1]; omega))
        ·
         refine H.kd 2 (fun b => b) (2 < (↑(ByteArray.size (List.getD l (0 + Int.toNat (↑i : Int)) ByteArray.empty ++ sp1)) : Int)) (by (first | assumption | omega | exact Nat.ble_eq_true_of_le (by omega) | exact beq_self_eq_true _ | (rw [Nat.ble_eq_true_of_le (by omega)]; rfl))) (by kernel_rfl) ?_
         refine H.sd 3 (fun b => (b == false)) (byteAt (List.getD l (0 + Int.toNat (↑i : Int)) ByteArray.empty ++ sp1) 2 < 48) (by kernel_rfl) (fun h8 => ?_) (fun h8 => ?_)
         ·
          refine H.lf (f := pL 1) 26 (Sum.inr (Sum.inl (AV.tup [AV.agg [AV.i IntKind.i64 0, AV.v (Value.slice none 0 0)], AV.i IntKind.i64 1], []))) (by kernel_rfl) ?_
          first | exact hp1 (pg_E hz hr (fun h => by obtain ⟨q1, q2, q3, q4, q5, q6, q7, q8, q9⟩ := h; first | omega | exact absurd (q9.symm.trans (show _ = false by assumption)) (by decide))) | exact hp1 (pg_L hz hr (by assumption) (by rw [← List.length_pos_iff, List.length_drop, hl.1]; omega))
         ·
          refine H.kd 2 (fun b => b) (2 < (↑(ByteArray.size (List.getD l (0 + Int.toNat (↑i : Int)) ByteArray.empty ++ sp1)) : Int)) (by (first | assumption | omega | exact Nat.ble_eq_true_of_le (by omega) | exact beq_self_eq_true _ | (rw [Nat.ble_eq_true_of_le (by omega)]; rfl))) (by kernel_rfl) ?_
          refine H.sd 3 (fun b => (b == false)) (byteAt (List.getD l (0 + Int.toNat (↑i : Int)) ByteArray.empty ++ sp1) 2 > 57) (by kernel_rfl) (fun h9 => ?_) (fun h9 => ?_)
          ·
           refine H.lf (f := pL 1) 22 (Sum.inr (Sum.inl (AV.tup [AV.agg [AV.i IntKind.i64 0, AV.v (Value.slice none 0 0)], AV.i IntKind.i64 1], []))) (by kernel_rfl) ?_
           first | exact hp1 (pg_E hz hr (fun h => by obtain ⟨q1, q2, q3, q4, q5, q6, q7, q8, q9⟩ := h; first | omega | exact absurd (q9.symm.trans (show _ = false by assumption)) (by decide))) | exact hp1 (pg_L hz hr (by assumption) (by rw [← List.length_pos_iff, List.length_drop, hl.1]; omega))
          ·
           refine H.kd 2 (fun b => b) (3 < (↑(ByteArray.size (List.getD l (0 + Int.toNat (↑i : Int)) ByteArray.empty ++ sp1)) : Int)) (by (first | assumption | omega | exact Nat.ble_eq_true_of_le (by omega) | exact beq_self_eq_true _ | (rw [Nat.ble_eq_true_of_le (by omega)]; rfl))) (by kernel_rfl) ?_
           refine H.se 3 (fun b => ((!b) == true)) (byteAt (List.getD l (0 + Int.toNat (↑i : Int)) ByteArray.empty ++ sp1) 3) (45) (by kernel_rfl) (fun h10 => ?_) (fun h10 => ?_)
           ·
            refine H.kd 16 (fun b => b) (0 < (↑(ByteArray.size (List.getD l (0 + Int.toNat (↑i : Int)) ByteArray.empty ++ sp1)) : Int)) (by (first | assumption | omega | exact Nat.ble_eq_true_of_le (by omega) | exact beq_self_eq_true _ | (rw [Nat.ble_eq_true_of_le (by omega)]; rfl))) (by kernel_rfl) ?_
            refine H.kd 8 (fun b => b) (1 < (↑(ByteArray.size (List.getD l (0 + Int.toNat (↑i : Int)) ByteArray.empty ++ sp1)) : Int)) (by (first | assumption | omega | exact Nat.ble_eq_true_of_le (by omega) | exact beq_self_eq_true _ | (rw [Nat.ble_eq_true_of_le (by omega)]; rfl))) (by kernel_rfl) ?_
            refine H.kd 10 (fun b => b) (2 < (↑(ByteArray.size (List.getD l (0 + Int.toNat (↑i : Int)) ByteArray.empty ++ sp1)) : Int)) (by (first | assumption | omega | exact Nat.ble_eq_true_of_le (by omega) | exact beq_self_eq_true _ | (rw [Nat.ble_eq_true_of_le (by omega)]; rfl))) (by kernel_rfl) ?_
            refine H.nd 8 (fun b => (b == true)) ((↑i : Int) > 0) (by (first | assumption | omega | exact Nat.ble_eq_true_of_le (by omega) | exact beq_self_eq_true _ | (rw [Nat.ble_eq_true_of_le (by omega)]; rfl))) (by kernel_rfl) ?_
            refine H.kd 15 (fun b => b) ((↑(ByteArray.size (List.getD l (0 + Int.toNat (↑i : Int)) ByteArray.empty ++ sp1)) : Int) ≤ (↑(ByteArray.size (List.getD l (0 + Int.toNat (↑i : Int)) ByteArray.empty ++ sp1)) : Int)) (by (first | assumption | omega | exact Nat.ble_eq_true_of_le (by omega) | exact beq_self_eq_true _ | (rw [Nat.ble_eq_true_of_le (by omega)]; rfl))) (by kernel_rfl) ?_
            refine H.kd 1 (fun b => b) (4 ≤ (↑(ByteArray.size (List.getD l (0 + Int.toNat (↑i : Int)) ByteArray.empty ++ sp1)) : Int)) (by (first | assumption | omega | exact Nat.ble_eq_true_of_le (by omega) | exact beq_self_eq_true _ | (rw [Nat.ble_eq_true_of_le (by omega)]; rfl))) (by kernel_rfl) ?_
            refine H.kd 17 (fun b => b) (3 < (↑(ByteArray.size (List.getD l (0 + Int.toNat (↑i : Int)) ByteArray.empty ++ sp1)) : Int)) (by (first | assumption | omega | exact Nat.ble_eq_true_of_le (by omega) | exact beq_self_eq_true _ | (rw [Nat.ble_eq_true_of_le (by omega)]; rfl))) (by kernel_rfl) ?_
            refine H.lf (f := pL 1) 3 (Sum.inl ([AV.sl 0 0 n cap, AV.ptr 1 0 0, AV.ptr 2 0 0, AV.b (byteAt (List.getD l (0 + Int.toNat (↑i : Int)) ByteArray.empty ++ sp1) 3 == 45), AV.i IntKind.i64 (wr IntKind.i64 ((↑i : Int) + 1))], 1, [AObj.ro nl n [Col.cs l], AObj.own 26 2 [AV.i IntKind.i64 0, AV.v (Value.slice none 0 0)], AObj.own 26 2 [AV.i IntKind.i64 (wr IntKind.i64 (wr IntKind.i64 (wr IntKind.i64 (100 * wr IntKind.i64 (wr IntKind.u8 (byteAt (List.getD l (0 + Int.toNat (↑i : Int)) ByteArray.empty ++ sp1) 0 - 48))) + wr IntKind.i64 (10 * wr IntKind.i64 (wr IntKind.u8 (byteAt (List.getD l (0 + Int.toNat (↑i : Int)) ByteArray.empty ++ sp1) 1 - 48)))) + wr IntKind.i64 (wr IntKind.u8 (byteAt (List.getD l (0 + Int.toNat (↑i : Int)) ByteArray.empty ++ sp1) 2 - 48)))), AV.sl 3 0 1 none], AObj.vec 9 1 [Col.cs [ByteArray.extract (List.getD l (0 + Int.toNat (↑i : Int)) ByteArray.empty ++ sp1) 4 (ByteArray.size (List.getD l (0 + Int.toNat (↑i : Int)) ByteArray.empty ++ sp1))]]])) (by kernel_rfl) ?_
            obtain ⟨hn1, hn2⟩ := pg_N hz hr ⟨by omega, by omega, by omega, by omega, by omega, by omega, by omega, by omega, by assumption⟩ (.inl rfl)
            have hlt2 : n - (i + 1) < n - i := by omega
            have eT : [ByteArray.extract (List.getD l (0 + Int.toNat (↑i : Int)) ByteArray.empty ++ sp1) 4 (ByteArray.size (List.getD l (0 + Int.toNat (↑i : Int)) ByteArray.empty ++ sp1))] = rdT l 1 := by
              have e1 : List.map lnT (List.take 1 l) = [lnT (List.getD l (0 + Int.toNat (↑i : Int)) ByteArray.empty)] := (congrArg (fun q => List.map lnT (List.take 1 q)) hd0).trans rfl
              rw [rdT_eq, e1, hz.t]
            have eC : wr .i64 (wr .i64 (wr .i64 (100 * wr .i64 (wr .u8 (byteAt (List.getD l (0 + Int.toNat (↑i : Int)) ByteArray.empty ++ sp1) 0 - 48))) + wr .i64 (10 * wr .i64 (wr .u8 (byteAt (List.getD l (0 + Int.toNat (↑i : Int)) ByteArray.empty ++ sp1) 1 - 48)))) + wr .i64 (wr .u8 (byteAt (List.getD l (0 + Int.toNat (↑i : Int)) ByteArray.empty ++ sp1) 2 - 48))) = rdC l (i + 1) := by rw [hn2, rdC_eq]; exact congrArg lnC hX1
            have eM : (byteAt (List.getD l (0 + Int.toNat (↑i : Int)) ByteArray.empty ++ sp1) 3 == 45) = lnM (List.getD l (0 + Int.toNat (↑i : Int)) ByteArray.empty) := hz.m.symm
            exact ⟨_, hlt2, i + 1, by omega, hn, rfl, .inr ⟨by omega, lnM (List.getD l (0 + Int.toNat (↑i : Int)) ByteArray.empty), fun hh => by rw [hz.m]; (first | (rw [h10]; rfl) | (exfalso; omega)), by rw [← eC, hn2]; exact hn1, by (rw [eM, eC, eT, wrN (by omega), e1i]) <;> rfl⟩⟩
           ·
            refine H.kd 2 (fun b => b) (3 < (↑(ByteArray.size (List.getD l (0 + Int.toNat (↑i : Int)) ByteArray.empty ++ sp1)) : Int)) (by (first | assumption | omega | exact Nat.ble_eq_true_of_le (by omega) | exact beq_self_eq_true _ | (rw [Nat.ble_eq_true_of_le (by omega)]; rfl))) (by kernel_rfl) ?_
            refine H.se 3 (fun b => ((!b) == false)) (byteAt (List.getD l (0 + Int.toNat (↑i : Int)) ByteArray.empty ++ sp1) 3) (32) (by kernel_rfl) (fun h11 => ?_) (fun h11 => ?_)
            ·
             refine H.sd 11 (fun b => b) ((↑i : Int) < wr IntKind.i64 ((↑n : Int) - 1)) (by kernel_rfl) (fun h12 => ?_) (fun h12 => ?_)
             ·
              refine H.lf (f := pL 1) 6 (Sum.inr (Sum.inl (AV.tup [AV.agg [AV.i IntKind.i64 0, AV.v (Value.slice none 0 0)], AV.i IntKind.i64 1], []))) (by kernel_rfl) ?_
              first | exact hp1 (pg_E hz hr (fun h => by obtain ⟨q1, q2, q3, q4, q5, q6, q7, q8, q9⟩ := h; first | omega | exact absurd (q9.symm.trans (show _ = false by assumption)) (by decide))) | exact hp1 (pg_L hz hr (by assumption) (by rw [← List.length_pos_iff, List.length_drop, hl.1]; omega))
             ·
              refine H.kd 3 (fun b => b) (0 < (↑(ByteArray.size (List.getD l (0 + Int.toNat (↑i : Int)) ByteArray.empty ++ sp1)) : Int)) (by (first | assumption | omega | exact Nat.ble_eq_true_of_le (by omega) | exact beq_self_eq_true _ | (rw [Nat.ble_eq_true_of_le (by omega)]; rfl))) (by kernel_rfl) ?_
              refine H.kd 8 (fun b => b) (1 < (↑(ByteArray.size (List.getD l (0 + Int.toNat (↑i : Int)) ByteArray.empty ++ sp1)) : Int)) (by (first | assumption | omega | exact Nat.ble_eq_true_of_le (by omega) | exact beq_self_eq_true _ | (rw [Nat.ble_eq_true_of_le (by omega)]; rfl))) (by kernel_rfl) ?_
              refine H.kd 10 (fun b => b) (2 < (↑(ByteArray.size (List.getD l (0 + Int.toNat (↑i : Int)) ByteArray.empty ++ sp1)) : Int)) (by (first | assumption | omega | exact Nat.ble_eq_true_of_le (by omega) | exact beq_self_eq_true _ | (rw [Nat.ble_eq_true_of_le (by omega)]; rfl))) (by kernel_rfl) ?_
              refine H.nd 8 (fun b => (b == true)) ((↑i : Int) > 0) (by (first | assumption | omega | exact Nat.ble_eq_true_of_le (by omega) | exact beq_self_eq_true _ | (rw [Nat.ble_eq_true_of_le (by omega)]; rfl))) (by kernel_rfl) ?_
              refine H.kd 15 (fun b => b) ((↑(ByteArray.size (List.getD l (0 + Int.toNat (↑i : Int)) ByteArray.empty ++ sp1)) : Int) ≤ (↑(ByteArray.size (List.getD l (0 + Int.toNat (↑i : Int)) ByteArray.empty ++ sp1)) : Int)) (by (first | assumption | omega | exact Nat.ble_eq_true_of_le (by omega) | exact beq_self_eq_true _ | (rw [Nat.ble_eq_true_of_le (by omega)]; rfl))) (by kernel_rfl) ?_
              refine H.kd 1 (fun b => b) (4 ≤ (↑(ByteArray.size (List.getD l (0 + Int.toNat (↑i : Int)) ByteArray.empty ++ sp1)) : Int)) (by (first | assumption | omega | exact Nat.ble_eq_true_of_le (by omega) | exact beq_self_eq_true _ | (rw [Nat.ble_eq_true_of_le (by omega)]; rfl))) (by kernel_rfl) ?_
              refine H.kd 17 (fun b => b) (3 < (↑(ByteArray.size (List.getD l (0 + Int.toNat (↑i : Int)) ByteArray.empty ++ sp1)) : Int)) (by (first | assumption | omega | exact Nat.ble_eq_true_of_le (by omega) | exact beq_self_eq_true _ | (rw [Nat.ble_eq_true_of_le (by omega)]; rfl))) (by kernel_rfl) ?_
              refine H.lf (f := pL 1) 3 (Sum.inl ([AV.sl 0 0 n cap, AV.ptr 1 0 0, AV.ptr 2 0 0, AV.b (byteAt (List.getD l (0 + Int.toNat (↑i : Int)) ByteArray.empty ++ sp1) 3 == 45), AV.i IntKind.i64 (wr IntKind.i64 ((↑i : Int) + 1))], 1, [AObj.ro nl n [Col.cs l], AObj.own 26 2 [AV.i IntKind.i64 0, AV.v (Value.slice none 0 0)], AObj.own 26 2 [AV.i IntKind.i64 (wr IntKind.i64 (wr IntKind.i64 (wr IntKind.i64 (100 * wr IntKind.i64 (wr IntKind.u8 (byteAt (List.getD l (0 + Int.toNat (↑i : Int)) ByteArray.empty ++ sp1) 0 - 48))) + wr IntKind.i64 (10 * wr IntKind.i64 (wr IntKind.u8 (byteAt (List.getD l (0 + Int.toNat (↑i : Int)) ByteArray.empty ++ sp1) 1 - 48)))) + wr IntKind.i64 (wr IntKind.u8 (byteAt (List.getD l (0 + Int.toNat (↑i : Int)) ByteArray.empty ++ sp1) 2 - 48)))), AV.sl 3 0 1 none], AObj.vec 9 1 [Col.cs [ByteArray.extract (List.getD l (0 + Int.toNat (↑i : Int)) ByteArray.empty ++ sp1) 4 (ByteArray.size (List.getD l (0 + Int.toNat (↑i : Int)) ByteArray.empty ++ sp1))]]])) (by kernel_rfl) ?_
              obtain ⟨hn1, hn2⟩ := pg_N hz hr ⟨by omega, by omega, by omega, by omega, by omega, by omega, by omega, by omega, by assumption⟩ (.inl rfl)
              have hlt2 : n - (i + 1) < n - i := by omega
              have eT : [ByteArray.extract (List.getD l (0 + Int.toNat (↑i : Int)) ByteArray.empty ++ sp1) 4 (ByteArray.size (List.getD l (0 + Int.toNat (↑i : Int)) ByteArray.empty ++ sp1))] = rdT l 1 := by
                have e1 : List.map lnT (List.take 1 l) = [lnT (List.getD l (0 + Int.toNat (↑i : Int)) ByteArray.empty)] := (congrArg (fun q => List.map lnT (List.take 1 q)) hd0).trans rfl
                rw [rdT_eq, e1, hz.t]
              have eC : wr .i64 (wr .i64 (wr .i64 (100 * wr .i64 (wr .u8 (byteAt (List.getD l (0 + Int.toNat (↑i : Int)) ByteArray.empty ++ sp1) 0 - 48))) + wr .i64 (10 * wr .i64 (wr .u8 (byteAt (List.getD l (0 + Int.toNat (↑i : Int)) ByteArray.empty ++ sp1) 1 - 48)))) + wr .i64 (wr .u8 (byteAt (List.getD l (0 + Int.toNat (↑i : Int)) ByteArray.empty ++ sp1) 2 - 48))) = rdC l (i + 1) := by rw [hn2, rdC_eq]; exact congrArg lnC hX1
              have eM : (byteAt (List.getD l (0 + Int.toNat (↑i : Int)) ByteArray.empty ++ sp1) 3 == 45) = lnM (List.getD l (0 + Int.toNat (↑i : Int)) ByteArray.empty) := hz.m.symm
              exact ⟨_, hlt2, i + 1, by omega, hn, rfl, .inr ⟨by omega, lnM (List.getD l (0 + Int.toNat (↑i : Int)) ByteArray.empty), fun hh => by rw [hz.m]; (first | (rw [h10]; rfl) | (exfalso; omega)), by rw [← eC, hn2]; exact hn1, by (rw [eM, eC, eT, wrN (by omega), e1i]) <;> rfl⟩⟩
            ·
             refine H.lf (f := pL 1) 16 (Sum.inr (Sum.inl (AV.tup [AV.agg [AV.i IntKind.i64 0, AV.v (Value.slice none 0 0)], AV.i IntKind.i64 1], []))) (by kernel_rfl) ?_
             first | exact hp1 (pg_E hz hr (fun h => by obtain ⟨q1, q2, q3, q4, q5, q6, q7, q8, q9⟩ := h; first | omega | exact absurd (q9.symm.trans (show _ = false by assumption)) (by decide))) | exact hp1 (pg_L hz hr (by assumption) (by rw [← List.length_pos_iff, List.length_drop, hl.1]; omega))
    ·
     refine H.lf (f := pL 1) 46 (Sum.inr (Sum.inl (AV.tup [AV.agg [AV.i IntKind.i64 0, AV.v (Value.slice none 0 0)], AV.i IntKind.i64 1], []))) (by kernel_rfl) ?_
     first | exact hp1 (pg_E hz hr (fun h => by obtain ⟨q1, q2, q3, q4, q5, q6, q7, q8, q9⟩ := h; first | omega | exact absurd (q9.symm.trans (show _ = false by assumption)) (by decide))) | exact hp1 (pg_L hz hr (by assumption) (by rw [← List.length_pos_iff, List.length_drop, hl.1]; omega))
   ·
    exfalso
    have hsz : (ByteArray.extract (List.getD l (0 + Int.toNat (↑i : Int)) ByteArray.empty ++ sp1) 4 (ByteArray.size (List.getD l (0 + Int.toNat (↑i : Int)) ByteArray.empty ++ sp1))).size ≤ 10000 := by rw [ByteArray.size_extract]; omega
    first | exact ble_f (by assumption) (by omega) | exact absurd (show (Nat.beq (i + 1) (i + 1) && Nat.beq 1 1) = false by assumption) (by rw [Nat.beq_refl]; decide)
  ·
   exfalso
   have hsz : (ByteArray.extract (List.getD l (0 + Int.toNat (↑i : Int)) ByteArray.empty ++ sp1) 4 (ByteArray.size (List.getD l (0 + Int.toNat (↑i : Int)) ByteArray.empty ++ sp1))).size ≤ 10000 := by rw [ByteArray.size_extract]; omega
   first | exact ble_f (by assumption) (by omega) | exact absurd (show (Nat.beq (i + 1) (i + 1) && Nat.beq 1 1) = false by assumption) (by rw [Nat.beq_refl]; decide)
theorem s9a4 {nl : Bool} {n : Nat} {cap : Option Nat} {l : List ByteArray} {Q : An → Prop} (hq : rdE l n = 0 → Q (.tup [.agg [iv (rdC l n), .sl 1 0 n none], iv 0], [.vec 9 n [.cs (rdT l n)]])) (hp7 : rdE l n = 7 → Q (.tup [.agg [iv 0, .v (.slice none 0 0)], iv 7], [])) (hp1 : rdE l n = 1 → Q (.tup [.agg [iv 0, .v (.slice none 0 0)], iv 1], [])) (hl : okL l n) (hn : n ≤ 16) {i : Nat} (hi : (i : Int) < n) (h0i : i = 0) (hx3 : ByteArray.size (List.getD l (0 + Int.toNat (↑i : Int)) ByteArray.empty) ≠ 3) (hr0 : rdV l true true 0 = rdE l n) :
    H (lawL S27 (fi9 false) 1 [1,1,1,1,0,1,0] 3 [.sl 0 0 n cap] ([.sl 0 0 n cap, .ptr 1 0 0, .ptr 2 0 0, .b true, iv i], 1, [.ro nl n [.cs l], .own 26 2 [iv 0, .v (.slice none 0 0)], .own 26 2 [iv 0, .v (.slice none 0 0)]])) (OkS (fun s' => ∃ m', m' < n - i ∧ I9 nl n cap l m' s') (OkY (fun x => Q (resV 1 x)) (fun _ => False))) F0 := by
  skip
  have hz : ZOf (List.getD l (0 + Int.toNat (↑i : Int)) ByteArray.empty) (List.getD l (0 + Int.toNat (↑i : Int)) ByteArray.empty) := z4 hx3
  have hs := hl.2.2 (0 + Int.toNat (i : Int))
  have hd := drop_at hl hi
  have hX1 : l.getD (0 + Int.toNat (i : Int)) ByteArray.empty = l.getD (i + 1 - 1) ByteArray.empty := by rw [show 0 + Int.toNat (i : Int) = i + 1 - 1 by omega]
  have wn1 : wr .i64 ((n : Int) - 1) = (n : Int) - 1 := wr64 (by omega) (by omega)
  skip
  have sp1s : ByteArray.size sp1 = 1 := rfl
  have hx : (↑(ByteArray.size (List.getD l (0 + Int.toNat (↑i : Int)) ByteArray.empty)) : Int) ≠ 3 := by omega
  have hr : rdV ((List.getD l (0 + Int.toNat (↑i : Int)) ByteArray.empty) :: l.drop (i + 1)) true true 0 = rdE l n := by rw [← hd, h0i]; exact hr0
  have e1i : i + 1 = 1 := by omega
  have hd0 : l = (List.getD l (0 + Int.toNat (↑i : Int)) ByteArray.empty) :: l.drop (i + 1) := (show l = l.drop i by rw [h0i]; rfl).trans hd
  refine pL_Q (k := 1) ?_
  refine H.kd 1 (fun b => b) ((↑i : Int) < (↑n : Int)) (by (first | assumption | omega | exact Nat.ble_eq_true_of_le (by omega) | exact beq_self_eq_true _ | (rw [Nat.ble_eq_true_of_le (by omega)]; rfl))) (by kernel_rfl) ?_
  refine H.kd 2 (fun b => b) ((↑i : Int) < (↑n : Int)) (by (first | assumption | omega | exact Nat.ble_eq_true_of_le (by omega) | exact beq_self_eq_true _ | (rw [Nat.ble_eq_true_of_le (by omega)]; rfl))) (by kernel_rfl) ?_
  refine H.kl 0 (fun b => b) (0 + Int.toNat (↑i : Int)) (n) (by (first | assumption | omega | exact Nat.ble_eq_true_of_le (by omega) | exact beq_self_eq_true _ | (rw [Nat.ble_eq_true_of_le (by omega)]; rfl))) (by kernel_rfl) ?_
  refine H.ne 1 (fun b => b) ((↑(ByteArray.size (List.getD l (0 + Int.toNat (↑i : Int)) ByteArray.empty)) : Int)) (3) (by (first | assumption | omega | exact Nat.ble_eq_true_of_le (by omega) | exact beq_self_eq_true _ | (rw [Nat.ble_eq_true_of_le (by omega)]; rfl))) (by kernel_rfl) ?_
  refine H.sd 1 (fun b => (b == false)) ((↑(ByteArray.size (List.getD l (0 + Int.toNat (↑i : Int)) ByteArray.empty)) : Int) < 4) (by kernel_rfl) (fun h1 => ?_) (fun h1 => ?_)
  ·
   refine H.lf (f := pL 1) 51 (Sum.inr (Sum.inl (AV.tup [AV.agg [AV.i IntKind.i64 0, AV.v (Value.slice none 0 0)], AV.i IntKind.i64 1], []))) (by kernel_rfl) ?_
   first | exact hp1 (pg_E hz hr (fun h => by obtain ⟨q1, q2, q3, q4, q5, q6, q7, q8, q9⟩ := h; first | omega | exact absurd (q9.symm.trans (show _ = false by assumption)) (by decide))) | exact hp1 (pg_L hz hr (by assumption) (by rw [← List.length_pos_iff, List.length_drop, hl.1]; omega))
  ·
   refine H.kd 2 (fun b => b) ((↑(ByteArray.size (List.getD l (0 + Int.toNat (↑i : Int)) ByteArray.empty)) : Int) ≤ (↑(ByteArray.size (List.getD l (0 + Int.toNat (↑i : Int)) ByteArray.empty)) : Int)) (by (first | assumption | omega | exact Nat.ble_eq_true_of_le (by omega) | exact beq_self_eq_true _ | (rw [Nat.ble_eq_true_of_le (by omega)]; rfl))) (by kernel_rfl) ?_
   refine H.kd 1 (fun b => b) (4 ≤ (↑(ByteArray.size (List.getD l (0 + Int.toNat (↑i : Int)) ByteArray.empty)) : Int)) (by (first | assumption | omega | exact Nat.ble_eq_true_of_le (by omega) | exact beq_self_eq_true _ | (rw [Nat.ble_eq_true_of_le (by omega)]; rfl))) (by kernel_rfl) ?_
   refine H.sb 2 (fun b => b) (Nat.ble (ByteArray.size (ByteArray.extract (List.getD l (0 + Int.toNat (↑i : Int)) ByteArray.empty) 4 (ByteArray.size (List.getD l (0 + Int.toNat (↑i : Int)) ByteArray.empty)))) 10000) (by kernel_rfl) (fun h2 => ?_) (fun h2 => ?_)
   ·
    refine H.sb 3 (fun b => ((!b) == false)) (wdO (ByteArray.extract (List.getD l (0 + Int.toNat (↑i : Int)) ByteArray.empty) 4 (ByteArray.size (List.getD l (0 + Int.toNat (↑i : Int)) ByteArray.empty)))) (by kernel_rfl) (fun h3 => ?_) (fun h3 => ?_)
    ·
     refine H.kd 2 (fun b => b) (0 < (↑(ByteArray.size (List.getD l (0 + Int.toNat (↑i : Int)) ByteArray.empty)) : Int)) (by (first | assumption | omega | exact Nat.ble_eq_true_of_le (by omega) | exact beq_self_eq_true _ | (rw [Nat.ble_eq_true_of_le (by omega)]; rfl))) (by kernel_rfl) ?_
     refine H.sd 3 (fun b => (b == false)) (byteAt (List.getD l (0 + Int.toNat (↑i : Int)) ByteArray.empty) 0 < 50) (by kernel_rfl) (fun h4 => ?_) (fun h4 => ?_)
     ·
      refine H.lf (f := pL 1) 42 (Sum.inr (Sum.inl (AV.tup [AV.agg [AV.i IntKind.i64 0, AV.v (Value.slice none 0 0)], AV.i IntKind.i64 1], []))) (by kernel_rfl) ?_
      first | exact hp1 (pg_E hz hr (fun h => by obtain ⟨q1, q2, q3, q4, q5, q6, q7, q8, q9⟩ := h; first | omega | exact absurd (q9.symm.trans (show _ = false by assumption)) (by decide))) | exact hp1 (pg_L hz hr (by assumption) (by rw [← List.length_pos_iff, List.length_drop, hl.1]; omega))
     ·
      refine H.kd 2 (fun b => b) (0 < (↑(ByteArray.size (List.getD l (0 + Int.toNat (↑i : Int)) ByteArray.empty)) : Int)) (by (first | assumption | omega | exact Nat.ble_eq_true_of_le (by omega) | exact beq_self_eq_true _ | (rw [Nat.ble_eq_true_of_le (by omega)]; rfl))) (by kernel_rfl) ?_
      refine H.sd 3 (fun b => (b == false)) (byteAt (List.getD l (0 + Int.toNat (↑i : Int)) ByteArray.empty) 0 > 53) (by kernel_rfl) (fun h5 => ?_) (fun h5 => ?_)
      ·
       refine H.lf (f := pL 1) 38 (Sum.inr (Sum.inl (AV.tup [AV.agg [AV.i IntKind.i64 0, AV.v (Value.slice none 0 0)], AV.i IntKind.i64 1], []))) (by kernel_rfl) ?_
       first | exact hp1 (pg_E hz hr (fun h => by obtain ⟨q1, q2, q3, q4, q5, q6, q7, q8, q9⟩ := h; first | omega | exact absurd (q9.symm.trans (show _ = false by assumption)) (by decide))) | exact hp1 (pg_L hz hr (by assumption) (by rw [← List.length_pos_iff, List.length_drop, hl.1]; omega))
      ·
       refine H.kd 2 (fun b => b) (1 < (↑(ByteArray.size (List.getD l (0 + Int.toNat (↑i : Int)) ByteArray.empty)) : Int)) (by (first | assumption | omega | exact Nat.ble_eq_true_of_le (by omega) | exact beq_self_eq_true _ | (rw [Nat.ble_eq_true_of_le (by omega)]; rfl))) (by kernel_rfl) ?_
       refine H.sd 3 (fun b => (b == false)) (byteAt (List.getD l (0 + Int.toNat (↑i : Int)) ByteArray.empty) 1 < 48) (by kernel_rfl) (fun h6 => ?_) (fun h6 => ?_)
       ·
        refine H.lf (f := pL 1) 34 (Sum.inr (Sum.inl (AV.tup [AV.agg [AV.i IntKind.i64 0, AV.v (Value.slice none 0 0)], AV.i IntKind.i64 1], []))) (by kernel_rfl) ?_
        first | exact hp1 (pg_E hz hr (fun h => by obtain ⟨q1, q2, q3, q4, q5, q6, q7, q8, q9⟩ := h; first | omega | exact absurd (q9.symm.trans (show _ = false by assumption)) (by decide))) | exact hp1 (pg_L hz hr (by assumption) (by rw [← List.length_pos_iff, List.length_drop, hl.1]; omega))
       ·
        refine H.kd 2 (fun b => b) (1 < (↑(ByteArray.size (List.getD l (0 + Int.toNat (↑i : Int)) ByteArray.empty)) : Int)) (by (first | assumption | omega | exact Nat.ble_eq_true_of_le (by omega) | exact beq_self_eq_true _ | (rw [Nat.ble_eq_true_of_le (by omega)]; rfl))) (by kernel_rfl) ?_
        refine H.sd 3 (fun b => (b == false)) (byteAt (List.getD l (0 + Int.toNat (↑i : Int)) ByteArray.empty) 1 > 57) (by kernel_rfl) (fun h7 => ?_) (fun h7 => ?_)
        ·
         refine H.lf (f := pL 1) 30 (Sum.inr (Sum.inl (AV.tup [AV.agg [AV.i IntKind.i64 0, AV.v (Value.slice none 0 0)], AV.i IntKind.i64 1], []))) (by kernel_rfl) ?_
         first | exact hp1 (pg_E hz hr (fun h => by obtain ⟨q1, q2, q3, q4, q5, q6, q7, q8, q9⟩ := h; first | omega | exact absurd (q9.symm.trans (show _ = false by assumption)) (by decide))) | exact hp1 (pg_L hz hr (by assumption) (by rw [← List.length_pos_iff, List.length_drop, hl.1]; omega))
        ·
         refine H.kd 2 (fun b => b) (2 < (↑(ByteArray.size (List.getD l (0 + Int.toNat (↑i : Int)) ByteArray.empty)) : Int)) (by (first | assumption | omega | exact Nat.ble_eq_true_of_le (by omega) | exact beq_self_eq_true _ | (rw [Nat.ble_eq_true_of_le (by omega)]; rfl))) (by kernel_rfl) ?_
         refine H.sd 3 (fun b => (b == false)) (byteAt (List.getD l (0 + Int.toNat (↑i : Int)) ByteArray.empty) 2 < 48) (by kernel_rfl) (fun h8 => ?_) (fun h8 => ?_)
         ·
          refine H.lf (f := pL 1) 26 (Sum.inr (Sum.inl (AV.tup [AV.agg [AV.i IntKind.i64 0, AV.v (Value.slice none 0 0)], AV.i IntKind.i64 1], []))) (by kernel_rfl) ?_
          first | exact hp1 (pg_E hz hr (fun h => by obtain ⟨q1, q2, q3, q4, q5, q6, q7, q8, q9⟩ := h; first | omega | exact absurd (q9.symm.trans (show _ = false by assumption)) (by decide))) | exact hp1 (pg_L hz hr (by assumption) (by rw [← List.length_pos_iff, List.length_drop, hl.1]; omega))
         ·
          refine H.kd 2 (fun b => b) (2 < (↑(ByteArray.size (List.getD l (0 + Int.toNat (↑i : Int)) ByteArray.empty)) : Int)) (by (first | assumption | omega | exact Nat.ble_eq_true_of_le (by omega) | exact beq_self_eq_true _ | (rw [Nat.ble_eq_true_of_le (by omega)]; rfl))) (by kernel_rfl) ?_
          refine H.sd 3 (fun b => (b == false)) (byteAt (List.getD l (0 + Int.toNat (↑i : Int)) ByteArray.empty) 2 > 57) (by kernel_rfl) (fun h9 => ?_) (fun h9 => ?_)
          ·
           refine H.lf (f := pL 1) 22 (Sum.inr (Sum.inl (AV.tup [AV.agg [AV.i IntKind.i64 0, AV.v (Value.slice none 0 0)], AV.i IntKind.i64 1], []))) (by kernel_rfl) ?_
           first | exact hp1 (pg_E hz hr (fun h => by obtain ⟨q1, q2, q3, q4, q5, q6, q7, q8, q9⟩ := h; first | omega | exact absurd (q9.symm.trans (show _ = false by assumption)) (by decide))) | exact hp1 (pg_L hz hr (by assumption) (by rw [← List.length_pos_iff, List.length_drop, hl.1]; omega))
          ·
           refine H.kd 2 (fun b => b) (3 < (↑(ByteArray.size (List.getD l (0 + Int.toNat (↑i : Int)) ByteArray.empty)) : Int)) (by (first | assumption | omega | exact Nat.ble_eq_true_of_le (by omega) | exact beq_self_eq_true _ | (rw [Nat.ble_eq_true_of_le (by omega)]; rfl))) (by kernel_rfl) ?_
           refine H.se 3 (fun b => ((!b) == true)) (byteAt (List.getD l (0 + Int.toNat (↑i : Int)) ByteArray.empty) 3) (45) (by kernel_rfl) (fun h10 => ?_) (fun h10 => ?_)
           ·
            refine H.kd 16 (fun b => b) (0 < (↑(ByteArray.size (List.getD l (0 + Int.toNat (↑i : Int)) ByteArray.empty)) : Int)) (by (first | assumption | omega | exact Nat.ble_eq_true_of_le (by omega) | exact beq_self_eq_true _ | (rw [Nat.ble_eq_true_of_le (by omega)]; rfl))) (by kernel_rfl) ?_
            refine H.kd 8 (fun b => b) (1 < (↑(ByteArray.size (List.getD l (0 + Int.toNat (↑i : Int)) ByteArray.empty)) : Int)) (by (first | assumption | omega | exact Nat.ble_eq_true_of_le (by omega) | exact beq_self_eq_true _ | (rw [Nat.ble_eq_true_of_le (by omega)]; rfl))) (by kernel_rfl) ?_
            refine H.kd 10 (fun b => b) (2 < (↑(ByteArray.size (List.getD l (0 + Int.toNat (↑i : Int)) ByteArray.empty)) : Int)) (by (first | assumption | omega | exact Nat.ble_eq_true_of_le (by omega) | exact beq_self_eq_true _ | (rw [Nat.ble_eq_true_of_le (by omega)]; rfl))) (by kernel_rfl) ?_
            refine H.nd 8 (fun b => (b == true)) ((↑i : Int) > 0) (by (first | assumption | omega | exact Nat.ble_eq_true_of_le (by omega) | exact beq_self_eq_true _ | (rw [Nat.ble_eq_true_of_le (by omega)]; rfl))) (by kernel_rfl) ?_
            refine H.kd 15 (fun b => b) ((↑(ByteArray.size (List.getD l (0 + Int.toNat (↑i : Int)) ByteArray.empty)) : Int) ≤ (↑(ByteArray.size (List.getD l (0 + Int.toNat (↑i : Int)) ByteArray.empty)) : Int)) (by (first | assumption | omega | exact Nat.ble_eq_true_of_le (by omega) | exact beq_self_eq_true _ | (rw [Nat.ble_eq_true_of_le (by omega)]; rfl))) (by kernel_rfl) ?_
            refine H.kd 1 (fun b => b) (4 ≤ (↑(ByteArray.size (List.getD l (0 + Int.toNat (↑i : Int)) ByteArray.empty)) : Int)) (by (first | assumption | omega | exact Nat.ble_eq_true_of_le (by omega) | exact beq_self_eq_true _ | (rw [Nat.ble_eq_true_of_le (by omega)]; rfl))) (by kernel_rfl) ?_
            refine H.kd 17 (fun b => b) (3 < (↑(ByteArray.size (List.getD l (0 + Int.toNat (↑i : Int)) ByteArray.empty)) : Int)) (by (first | assumption | omega | exact Nat.ble_eq_true_of_le (by omega) | exact beq_self_eq_true _ | (rw [Nat.ble_eq_true_of_le (by omega)]; rfl))) (by kernel_rfl) ?_
            refine H.lf (f := pL 1) 3 (Sum.inl ([AV.sl 0 0 n cap, AV.ptr 1 0 0, AV.ptr 2 0 0, AV.b (byteAt (List.getD l (0 + Int.toNat (↑i : Int)) ByteArray.empty) 3 == 45), AV.i IntKind.i64 (wr IntKind.i64 ((↑i : Int) + 1))], 1, [AObj.ro nl n [Col.cs l], AObj.own 26 2 [AV.i IntKind.i64 0, AV.v (Value.slice none 0 0)], AObj.own 26 2 [AV.i IntKind.i64 (wr IntKind.i64 (wr IntKind.i64 (wr IntKind.i64 (100 * wr IntKind.i64 (wr IntKind.u8 (byteAt (List.getD l (0 + Int.toNat (↑i : Int)) ByteArray.empty) 0 - 48))) + wr IntKind.i64 (10 * wr IntKind.i64 (wr IntKind.u8 (byteAt (List.getD l (0 + Int.toNat (↑i : Int)) ByteArray.empty) 1 - 48)))) + wr IntKind.i64 (wr IntKind.u8 (byteAt (List.getD l (0 + Int.toNat (↑i : Int)) ByteArray.empty) 2 - 48)))), AV.sl 3 0 1 none], AObj.vec 9 1 [Col.cs [ByteArray.extract (List.getD l (0 + Int.toNat (↑i : Int)) ByteArray.empty) 4 (ByteArray.size (List.getD l (0 + Int.toNat (↑i : Int)) ByteArray.empty))]]])) (by kernel_rfl) ?_
            obtain ⟨hn1, hn2⟩ := pg_N hz hr ⟨by omega, by omega, by omega, by omega, by omega, by omega, by omega, by omega, by assumption⟩ (.inl rfl)
            have hlt2 : n - (i + 1) < n - i := by omega
            have eT : [ByteArray.extract (List.getD l (0 + Int.toNat (↑i : Int)) ByteArray.empty) 4 (ByteArray.size (List.getD l (0 + Int.toNat (↑i : Int)) ByteArray.empty))] = rdT l 1 := by
              have e1 : List.map lnT (List.take 1 l) = [lnT (List.getD l (0 + Int.toNat (↑i : Int)) ByteArray.empty)] := (congrArg (fun q => List.map lnT (List.take 1 q)) hd0).trans rfl
              rw [rdT_eq, e1, hz.t]
            have eC : wr .i64 (wr .i64 (wr .i64 (100 * wr .i64 (wr .u8 (byteAt (List.getD l (0 + Int.toNat (↑i : Int)) ByteArray.empty) 0 - 48))) + wr .i64 (10 * wr .i64 (wr .u8 (byteAt (List.getD l (0 + Int.toNat (↑i : Int)) ByteArray.empty) 1 - 48)))) + wr .i64 (wr .u8 (byteAt (List.getD l (0 + Int.toNat (↑i : Int)) ByteArray.empty) 2 - 48))) = rdC l (i + 1) := by rw [hn2, rdC_eq]; exact congrArg lnC hX1
            have eM : (byteAt (List.getD l (0 + Int.toNat (↑i : Int)) ByteArray.empty) 3 == 45) = lnM (List.getD l (0 + Int.toNat (↑i : Int)) ByteArray.empty) := hz.m.symm
            exact ⟨_, hlt2, i + 1, by omega, hn, rfl, .inr ⟨by omega, lnM (List.getD l (0 + Int.toNat (↑i : Int)) ByteArray.empty), fun hh => by rw [hz.m]; (first | (rw [h10]; rfl) | (exfalso; omega)), by rw [← eC, hn2]; exact hn1, by (rw [eM, eC, eT, wrN (by omega), e1i]) <;> rfl⟩⟩
           ·
            refine H.kd 2 (fun b => b) (3 < (↑(ByteArray.size (List.getD l (0 + Int.toNat (↑i : Int)) ByteArray.empty)) : Int)) (by (first | assumption | omega | exact Nat.ble_eq_true_of_le (by omega) | exact beq_self_eq_true _ | (rw [Nat.ble_eq_true_of_le (by omega)]; rfl))) (by kernel_rfl) ?_
            refine H.se 3 (fun b => ((!b) == false)) (byteAt (List.getD l (0 + Int.toNat (↑i : Int)) ByteArray.empty) 3) (32) (by kernel_rfl) (fun h11 => ?_) (fun h11 => ?_)
            ·
             refine H.sd 11 (fun b => b) ((↑i : Int) < wr IntKind.i64 ((↑n : Int) - 1)) (by kernel_rfl) (fun h12 => ?_) (fun h12 => ?_)
             ·
              refine H.lf (f := pL 1) 6 (Sum.inr (Sum.inl (AV.tup [AV.agg [AV.i IntKind.i64 0, AV.v (Value.slice none 0 0)], AV.i IntKind.i64 1], []))) (by kernel_rfl) ?_
              first | exact hp1 (pg_E hz hr (fun h => by obtain ⟨q1, q2, q3, q4, q5, q6, q7, q8, q9⟩ := h; first | omega | exact absurd (q9.symm.trans (show _ = false by assumption)) (by decide))) | exact hp1 (pg_L hz hr (by assumption) (by rw [← List.length_pos_iff, List.length_drop, hl.1]; omega))
             ·
              refine H.kd 3 (fun b => b) (0 < (↑(ByteArray.size (List.getD l (0 + Int.toNat (↑i : Int)) ByteArray.empty)) : Int)) (by (first | assumption | omega | exact Nat.ble_eq_true_of_le (by omega) | exact beq_self_eq_true _ | (rw [Nat.ble_eq_true_of_le (by omega)]; rfl))) (by kernel_rfl) ?_
              refine H.kd 8 (fun b => b) (1 < (↑(ByteArray.size (List.getD l (0 + Int.toNat (↑i : Int)) ByteArray.empty)) : Int)) (by (first | assumption | omega | exact Nat.ble_eq_true_of_le (by omega) | exact beq_self_eq_true _ | (rw [Nat.ble_eq_true_of_le (by omega)]; rfl))) (by kernel_rfl) ?_
              refine H.kd 10 (fun b => b) (2 < (↑(ByteArray.size (List.getD l (0 + Int.toNat (↑i : Int)) ByteArray.empty)) : Int)) (by (first | assumption | omega | exact Nat.ble_eq_true_of_le (by omega) | exact beq_self_eq_true _ | (rw [Nat.ble_eq_true_of_le (by omega)]; rfl))) (by kernel_rfl) ?_
              refine H.nd 8 (fun b => (b == true)) ((↑i : Int) > 0) (by (first | assumption | omega | exact Nat.ble_eq_true_of_le (by omega) | exact beq_self_eq_true _ | (rw [Nat.ble_eq_true_of_le (by omega)]; rfl))) (by kernel_rfl) ?_
              refine H.kd 15 (fun b => b) ((↑(ByteArray.size (List.getD l (0 + Int.toNat (↑i : Int)) ByteArray.empty)) : Int) ≤ (↑(ByteArray.size (List.getD l (0 + Int.toNat (↑i : Int)) ByteArray.empty)) : Int)) (by (first | assumption | omega | exact Nat.ble_eq_true_of_le (by omega) | exact beq_self_eq_true _ | (rw [Nat.ble_eq_true_of_le (by omega)]; rfl))) (by kernel_rfl) ?_
              refine H.kd 1 (fun b => b) (4 ≤ (↑(ByteArray.size (List.getD l (0 + Int.toNat (↑i : Int)) ByteArray.empty)) : Int)) (by (first | assumption | omega | exact Nat.ble_eq_true_of_le (by omega) | exact beq_self_eq_true _ | (rw [Nat.ble_eq_true_of_le (by omega)]; rfl))) (by kernel_rfl) ?_
              refine H.kd 17 (fun b => b) (3 < (↑(ByteArray.size (List.getD l (0 + Int.toNat (↑i : Int)) ByteArray.empty)) : Int)) (by (first | assumption | omega | exact Nat.ble_eq_true_of_le (by omega) | exact beq_self_eq_true _ | (rw [Nat.ble_eq_true_of_le (by omega)]; rfl))) (by kernel_rfl) ?_
              refine H.lf (f := pL 1) 3 (Sum.inl ([AV.sl 0 0 n cap, AV.ptr 1 0 0, AV.ptr 2 0 0, AV.b (byteAt (List.getD l (0 + Int.toNat (↑i : Int)) ByteArray.empty) 3 == 45), AV.i IntKind.i64 (wr IntKind.i64 ((↑i : Int) + 1))], 1, [AObj.ro nl n [Col.cs l], AObj.own 26 2 [AV.i IntKind.i64 0, AV.v (Value.slice none 0 0)], AObj.own 26 2 [AV.i IntKind.i64 (wr IntKind.i64 (wr IntKind.i64 (wr IntKind.i64 (100 * wr IntKind.i64 (wr IntKind.u8 (byteAt (List.getD l (0 + Int.toNat (↑i : Int)) ByteArray.empty) 0 - 48))) + wr IntKind.i64 (10 * wr IntKind.i64 (wr IntKind.u8 (byteAt (List.getD l (0 + Int.toNat (↑i : Int)) ByteArray.empty) 1 - 48)))) + wr IntKind.i64 (wr IntKind.u8 (byteAt (List.getD l (0 + Int.toNat (↑i : Int)) ByteArray.empty) 2 - 48)))), AV.sl 3 0 1 none], AObj.vec 9 1 [Col.cs [ByteArray.extract (List.getD l (0 + Int.toNat (↑i : Int)) ByteArray.empty) 4 (ByteArray.size (List.getD l (0 + Int.toNat (↑i : Int)) ByteArray.empty))]]])) (by kernel_rfl) ?_
              obtain ⟨hn1, hn2⟩ := pg_N hz hr ⟨by omega, by omega, by omega, by omega, by omega, by omega, by omega, by omega, by assumption⟩ (.inl rfl)
              have hlt2 : n - (i + 1) < n - i := by omega
              have eT : [ByteArray.extract (List.getD l (0 + Int.toNat (↑i : Int)) ByteArray.empty) 4 (ByteArray.size (List.getD l (0 + Int.toNat (↑i : Int)) ByteArray.empty))] = rdT l 1 := by
                have e1 : List.map lnT (List.take 1 l) = [lnT (List.getD l (0 + Int.toNat (↑i : Int)) ByteArray.empty)] := (congrArg (fun q => List.map lnT (List.take 1 q)) hd0).trans rfl
                rw [rdT_eq, e1, hz.t]
              have eC : wr .i64 (wr .i64 (wr .i64 (100 * wr .i64 (wr .u8 (byteAt (List.getD l (0 + Int.toNat (↑i : Int)) ByteArray.empty) 0 - 48))) + wr .i64 (10 * wr .i64 (wr .u8 (byteAt (List.getD l (0 + Int.toNat (↑i : Int)) ByteArray.empty) 1 - 48)))) + wr .i64 (wr .u8 (byteAt (List.getD l (0 + Int.toNat (↑i : Int)) ByteArray.empty) 2 - 48))) = rdC l (i + 1) := by rw [hn2, rdC_eq]; exact congrArg lnC hX1
              have eM : (byteAt (List.getD l (0 + Int.toNat (↑i : Int)) ByteArray.empty) 3 == 45) = lnM (List.getD l (0 + Int.toNat (↑i : Int)) ByteArray.empty) := hz.m.symm
              exact ⟨_, hlt2, i + 1, by omega, hn, rfl, .inr ⟨by omega, lnM (List.getD l (0 + Int.toNat (↑i : Int)) ByteArray.empty), fun hh => by rw [hz.m]; (first | (rw [h10]; rfl) | (exfalso; omega)), by rw [← eC, hn2]; exact hn1, by (rw [eM, eC, eT, wrN (by omega), e1i]) <;> rfl⟩⟩
            ·
             refine H.lf (f := pL 1) 16 (Sum.inr (Sum.inl (AV.tup [AV.agg [AV.i IntKind.i64 0, AV.v (Value.slice none 0 0)], AV.i IntKind.i64 1], []))) (by kernel_rfl) ?_
             first | exact hp1 (pg_E hz hr (fun h => by obtain ⟨q1, q2, q3, q4, q5, q6, q7, q8, q9⟩ := h; first | omega | exact absurd (q9.symm.trans (show _ = false by assumption)) (by decide))) | exact hp1 (pg_L hz hr (by assumption) (by rw [← List.length_pos_iff, List.length_drop, hl.1]; omega))
    ·
     refine H.lf (f := pL 1) 46 (Sum.inr (Sum.inl (AV.tup [AV.agg [AV.i IntKind.i64 0, AV.v (Value.slice none 0 0)], AV.i IntKind.i64 1], []))) (by kernel_rfl) ?_
     first | exact hp1 (pg_E hz hr (fun h => by obtain ⟨q1, q2, q3, q4, q5, q6, q7, q8, q9⟩ := h; first | omega | exact absurd (q9.symm.trans (show _ = false by assumption)) (by decide))) | exact hp1 (pg_L hz hr (by assumption) (by rw [← List.length_pos_iff, List.length_drop, hl.1]; omega))
   ·
    exfalso
    have hsz : (ByteArray.extract (List.getD l (0 + Int.toNat (↑i : Int)) ByteArray.empty) 4 (ByteArray.size (List.getD l (0 + Int.toNat (↑i : Int)) ByteArray.empty))).size ≤ 10000 := by rw [ByteArray.size_extract]; omega
    first | exact ble_f (by assumption) (by omega) | exact absurd (show (Nat.beq (i + 1) (i + 1) && Nat.beq 1 1) = false by assumption) (by rw [Nat.beq_refl]; decide)
theorem s9b3 {nl : Bool} {n : Nat} {cap : Option Nat} {l : List ByteArray} {Q : An → Prop} (hq : rdE l n = 0 → Q (.tup [.agg [iv (rdC l n), .sl 1 0 n none], iv 0], [.vec 9 n [.cs (rdT l n)]])) (hp7 : rdE l n = 7 → Q (.tup [.agg [iv 0, .v (.slice none 0 0)], iv 7], [])) (hp1 : rdE l n = 1 → Q (.tup [.agg [iv 0, .v (.slice none 0 0)], iv 1], [])) (hl : okL l n) (hn : n ≤ 16) {i : Nat} (hi : (i : Int) < n) (h0i : 0 < i) {opn : Bool} (ho : opn = true) (hx3 : ByteArray.size (List.getD l (0 + Int.toNat (↑i : Int)) ByteArray.empty) = 3) (hr0 : rdV (l.drop i) false opn (rdC l i) = rdE l n) :
    H (lawL S27 (fi9 false) 1 [1,1,1,1,0,1,0] 3 [.sl 0 0 n cap] ([.sl 0 0 n cap, .ptr 1 0 0, .ptr 2 0 0, .b opn, iv i], 1, [.ro nl n [.cs l], .own 26 2 [iv 0, .v (.slice none 0 0)], .own 26 2 [iv (rdC l i), .sl 3 0 i none], .vec 9 i [.cs (rdT l i)]])) (OkS (fun s' => ∃ m', m' < n - i ∧ I9 nl n cap l m' s') (OkY (fun x => Q (resV 1 x)) (fun _ => False))) F0 := by
  subst ho
  have hz : ZOf (List.getD l (0 + Int.toNat (↑i : Int)) ByteArray.empty) (List.getD l (0 + Int.toNat (↑i : Int)) ByteArray.empty ++ sp1) := z3 hx3
  have hs := hl.2.2 (0 + Int.toNat (i : Int))
  have hd := drop_at hl hi
  have hX1 : l.getD (0 + Int.toNat (i : Int)) ByteArray.empty = l.getD (i + 1 - 1) ByteArray.empty := by rw [show 0 + Int.toNat (i : Int) = i + 1 - 1 by omega]
  have wn1 : wr .i64 ((n : Int) - 1) = (n : Int) - 1 := wr64 (by omega) (by omega)
  have sz4 : ByteArray.size (List.getD l (0 + Int.toNat (↑i : Int)) ByteArray.empty ++ sp1) = ByteArray.size (List.getD l (0 + Int.toNat (↑i : Int)) ByteArray.empty) + 1 := sp1_size _
  have sp1s : ByteArray.size sp1 = 1 := rfl
  have hx : (↑(ByteArray.size (List.getD l (0 + Int.toNat (↑i : Int)) ByteArray.empty)) : Int) = 3 := by omega
  have hr : rdV ((List.getD l (0 + Int.toNat (↑i : Int)) ByteArray.empty) :: l.drop (i + 1)) false true (rdC l i) = rdE l n := by rw [← hd]; exact hr0
  skip
  skip
  refine pL_Q (k := 1) ?_
  refine H.kd 1 (fun b => b) ((↑i : Int) < (↑n : Int)) (by (first | assumption | omega | exact Nat.ble_eq_true_of_le (by omega) | exact beq_self_eq_true _ | (rw [Nat.ble_eq_true_of_le (by omega)]; rfl))) (by kernel_rfl) ?_
  refine H.kd 2 (fun b => b) ((↑i : Int) < (↑n : Int)) (by (first | assumption | omega | exact Nat.ble_eq_true_of_le (by omega) | exact beq_self_eq_true _ | (rw [Nat.ble_eq_true_of_le (by omega)]; rfl))) (by kernel_rfl) ?_
  refine H.kl 0 (fun b => b) (0 + Int.toNat (↑i : Int)) (n) (by (first | assumption | omega | exact Nat.ble_eq_true_of_le (by omega) | exact beq_self_eq_true _ | (rw [Nat.ble_eq_true_of_le (by omega)]; rfl))) (by kernel_rfl) ?_
  refine H.ke 1 (fun b => b) ((↑(ByteArray.size (List.getD l (0 + Int.toNat (↑i : Int)) ByteArray.empty)) : Int)) (3) (by (first | assumption | omega | exact Nat.ble_eq_true_of_le (by omega) | exact beq_self_eq_true _ | (rw [Nat.ble_eq_true_of_le (by omega)]; rfl))) (by kernel_rfl) ?_
  refine H.sb 0 (fun b => b) (Nat.ble (ByteArray.size (List.getD l (0 + Int.toNat (↑i : Int)) ByteArray.empty) + ByteArray.size sp1) 9223372036854775807) (by kernel_rfl) (fun h1 => ?_) (fun h1 => ?_)
  ·
   refine H.nd 1 (fun b => (b == false)) ((↑(ByteArray.size (List.getD l (0 + Int.toNat (↑i : Int)) ByteArray.empty ++ sp1)) : Int) < 4) (by (first | assumption | omega | exact Nat.ble_eq_true_of_le (by omega) | exact beq_self_eq_true _ | (rw [Nat.ble_eq_true_of_le (by omega)]; rfl))) (by kernel_rfl) ?_
   refine H.kd 2 (fun b => b) ((↑(ByteArray.size (List.getD l (0 + Int.toNat (↑i : Int)) ByteArray.empty ++ sp1)) : Int) ≤ (↑(ByteArray.size (List.getD l (0 + Int.toNat (↑i : Int)) ByteArray.empty ++ sp1)) : Int)) (by (first | assumption | omega | exact Nat.ble_eq_true_of_le (by omega) | exact beq_self_eq_true _ | (rw [Nat.ble_eq_true_of_le (by omega)]; rfl))) (by kernel_rfl) ?_
   refine H.kd 1 (fun b => b) (4 ≤ (↑(ByteArray.size (List.getD l (0 + Int.toNat (↑i : Int)) ByteArray.empty ++ sp1)) : Int)) (by (first | assumption | omega | exact Nat.ble_eq_true_of_le (by omega) | exact beq_self_eq_true _ | (rw [Nat.ble_eq_true_of_le (by omega)]; rfl))) (by kernel_rfl) ?_
   refine H.sb 2 (fun b => b) (Nat.ble (ByteArray.size (ByteArray.extract (List.getD l (0 + Int.toNat (↑i : Int)) ByteArray.empty ++ sp1) 4 (ByteArray.size (List.getD l (0 + Int.toNat (↑i : Int)) ByteArray.empty ++ sp1)))) 10000) (by kernel_rfl) (fun h2 => ?_) (fun h2 => ?_)
   ·
    refine H.sb 3 (fun b => ((!b) == false)) (wdO (ByteArray.extract (List.getD l (0 + Int.toNat (↑i : Int)) ByteArray.empty ++ sp1) 4 (ByteArray.size (List.getD l (0 + Int.toNat (↑i : Int)) ByteArray.empty ++ sp1)))) (by kernel_rfl) (fun h3 => ?_) (fun h3 => ?_)
    ·
     refine H.kd 2 (fun b => b) (0 < (↑(ByteArray.size (List.getD l (0 + Int.toNat (↑i : Int)) ByteArray.empty ++ sp1)) : Int)) (by (first | assumption | omega | exact Nat.ble_eq_true_of_le (by omega) | exact beq_self_eq_true _ | (rw [Nat.ble_eq_true_of_le (by omega)]; rfl))) (by kernel_rfl) ?_
     refine H.sd 3 (fun b => (b == false)) (byteAt (List.getD l (0 + Int.toNat (↑i : Int)) ByteArray.empty ++ sp1) 0 < 50) (by kernel_rfl) (fun h4 => ?_) (fun h4 => ?_)
     ·
      refine H.lf (f := pL 1) 42 (Sum.inr (Sum.inl (AV.tup [AV.agg [AV.i IntKind.i64 0, AV.v (Value.slice none 0 0)], AV.i IntKind.i64 1], []))) (by kernel_rfl) ?_
      first | exact hp1 (pg_E hz hr (fun h => by obtain ⟨q1, q2, q3, q4, q5, q6, q7, q8, q9⟩ := h; first | omega | exact absurd (q9.symm.trans (show _ = false by assumption)) (by decide))) | exact hp1 (pg_C hz hr ⟨by omega, by omega, by omega, by omega, by omega, by omega⟩ (by assumption)) | exact hp1 (pg_L hz hr (by assumption) (by rw [← List.length_pos_iff, List.length_drop, hl.1]; omega))
     ·
      refine H.kd 2 (fun b => b) (0 < (↑(ByteArray.size (List.getD l (0 + Int.toNat (↑i : Int)) ByteArray.empty ++ sp1)) : Int)) (by (first | assumption | omega | exact Nat.ble_eq_true_of_le (by omega) | exact beq_self_eq_true _ | (rw [Nat.ble_eq_true_of_le (by omega)]; rfl))) (by kernel_rfl) ?_
      refine H.sd 3 (fun b => (b == false)) (byteAt (List.getD l (0 + Int.toNat (↑i : Int)) ByteArray.empty ++ sp1) 0 > 53) (by kernel_rfl) (fun h5 => ?_) (fun h5 => ?_)
      ·
       refine H.lf (f := pL 1) 38 (Sum.inr (Sum.inl (AV.tup [AV.agg [AV.i IntKind.i64 0, AV.v (Value.slice none 0 0)], AV.i IntKind.i64 1], []))) (by kernel_rfl) ?_
       first | exact hp1 (pg_E hz hr (fun h => by obtain ⟨q1, q2, q3, q4, q5, q6, q7, q8, q9⟩ := h; first | omega | exact absurd (q9.symm.trans (show _ = false by assumption)) (by decide))) | exact hp1 (pg_C hz hr ⟨by omega, by omega, by omega, by omega, by omega, by omega⟩ (by assumption)) | exact hp1 (pg_L hz hr (by assumption) (by rw [← List.length_pos_iff, List.length_drop, hl.1]; omega))
      ·
       refine H.kd 2 (fun b => b) (1 < (↑(ByteArray.size (List.getD l (0 + Int.toNat (↑i : Int)) ByteArray.empty ++ sp1)) : Int)) (by (first | assumption | omega | exact Nat.ble_eq_true_of_le (by omega) | exact beq_self_eq_true _ | (rw [Nat.ble_eq_true_of_le (by omega)]; rfl))) (by kernel_rfl) ?_
       refine H.sd 3 (fun b => (b == false)) (byteAt (List.getD l (0 + Int.toNat (↑i : Int)) ByteArray.empty ++ sp1) 1 < 48) (by kernel_rfl) (fun h6 => ?_) (fun h6 => ?_)
       ·
        refine H.lf (f := pL 1) 34 (Sum.inr (Sum.inl (AV.tup [AV.agg [AV.i IntKind.i64 0, AV.v (Value.slice none 0 0)], AV.i IntKind.i64 1], []))) (by kernel_rfl) ?_
        first | exact hp1 (pg_E hz hr (fun h => by obtain ⟨q1, q2, q3, q4, q5, q6, q7, q8, q9⟩ := h; first | omega | exact absurd (q9.symm.trans (show _ = false by assumption)) (by decide))) | exact hp1 (pg_C hz hr ⟨by omega, by omega, by omega, by omega, by omega, by omega⟩ (by assumption)) | exact hp1 (pg_L hz hr (by assumption) (by rw [← List.length_pos_iff, List.length_drop, hl.1]; omega))
       ·
        refine H.kd 2 (fun b => b) (1 < (↑(ByteArray.size (List.getD l (0 + Int.toNat (↑i : Int)) ByteArray.empty ++ sp1)) : Int)) (by (first | assumption | omega | exact Nat.ble_eq_true_of_le (by omega) | exact beq_self_eq_true _ | (rw [Nat.ble_eq_true_of_le (by omega)]; rfl))) (by kernel_rfl) ?_
        refine H.sd 3 (fun b => (b == false)) (byteAt (List.getD l (0 + Int.toNat (↑i : Int)) ByteArray.empty ++ sp1) 1 > 57) (by kernel_rfl) (fun h7 => ?_) (fun h7 => ?_)
        ·
         refine H.lf (f := pL 1) 30 (Sum.inr (Sum.inl (AV.tup [AV.agg [AV.i IntKind.i64 0, AV.v (Value.slice none 0 0)], AV.i IntKind.i64 1], []))) (by kernel_rfl) ?_
         first | exact hp1 (pg_E hz hr (fun h => by obtain ⟨q1, q2, q3, q4, q5, q6, q7, q8, q9⟩ := h; first | omega | exact absurd (q9.symm.trans (show _ = false by assumption)) (by decide))) | exact hp1 (pg_C hz hr ⟨by omega, by omega, by omega, by omega, by omega, by omega⟩ (by assumption)) | exact hp1 (pg_L hz hr (by assumption) (by rw [← List.length_pos_iff, List.length_drop, hl.1]; omega))
        ·
         refine H.kd 2 (fun b => b) (2 < (↑(ByteArray.size (List.getD l (0 + Int.toNat (↑i : Int)) ByteArray.empty ++ sp1)) : Int)) (by (first | assumption | omega | exact Nat.ble_eq_true_of_le (by omega) | exact beq_self_eq_true _ | (rw [Nat.ble_eq_true_of_le (by omega)]; rfl))) (by kernel_rfl) ?_
         refine H.sd 3 (fun b => (b == false)) (byteAt (List.getD l (0 + Int.toNat (↑i : Int)) ByteArray.empty ++ sp1) 2 < 48) (by kernel_rfl) (fun h8 => ?_) (fun h8 => ?_)
         ·
          refine H.lf (f := pL 1) 26 (Sum.inr (Sum.inl (AV.tup [AV.agg [AV.i IntKind.i64 0, AV.v (Value.slice none 0 0)], AV.i IntKind.i64 1], []))) (by kernel_rfl) ?_
          first | exact hp1 (pg_E hz hr (fun h => by obtain ⟨q1, q2, q3, q4, q5, q6, q7, q8, q9⟩ := h; first | omega | exact absurd (q9.symm.trans (show _ = false by assumption)) (by decide))) | exact hp1 (pg_C hz hr ⟨by omega, by omega, by omega, by omega, by omega, by omega⟩ (by assumption)) | exact hp1 (pg_L hz hr (by assumption) (by rw [← List.length_pos_iff, List.length_drop, hl.1]; omega))
         ·
          refine H.kd 2 (fun b => b) (2 < (↑(ByteArray.size (List.getD l (0 + Int.toNat (↑i : Int)) ByteArray.empty ++ sp1)) : Int)) (by (first | assumption | omega | exact Nat.ble_eq_true_of_le (by omega) | exact beq_self_eq_true _ | (rw [Nat.ble_eq_true_of_le (by omega)]; rfl))) (by kernel_rfl) ?_
          refine H.sd 3 (fun b => (b == false)) (byteAt (List.getD l (0 + Int.toNat (↑i : Int)) ByteArray.empty ++ sp1) 2 > 57) (by kernel_rfl) (fun h9 => ?_) (fun h9 => ?_)
          ·
           refine H.lf (f := pL 1) 22 (Sum.inr (Sum.inl (AV.tup [AV.agg [AV.i IntKind.i64 0, AV.v (Value.slice none 0 0)], AV.i IntKind.i64 1], []))) (by kernel_rfl) ?_
           first | exact hp1 (pg_E hz hr (fun h => by obtain ⟨q1, q2, q3, q4, q5, q6, q7, q8, q9⟩ := h; first | omega | exact absurd (q9.symm.trans (show _ = false by assumption)) (by decide))) | exact hp1 (pg_C hz hr ⟨by omega, by omega, by omega, by omega, by omega, by omega⟩ (by assumption)) | exact hp1 (pg_L hz hr (by assumption) (by rw [← List.length_pos_iff, List.length_drop, hl.1]; omega))
          ·
           refine H.kd 2 (fun b => b) (3 < (↑(ByteArray.size (List.getD l (0 + Int.toNat (↑i : Int)) ByteArray.empty ++ sp1)) : Int)) (by (first | assumption | omega | exact Nat.ble_eq_true_of_le (by omega) | exact beq_self_eq_true _ | (rw [Nat.ble_eq_true_of_le (by omega)]; rfl))) (by kernel_rfl) ?_
           refine H.se 3 (fun b => ((!b) == true)) (byteAt (List.getD l (0 + Int.toNat (↑i : Int)) ByteArray.empty ++ sp1) 3) (45) (by kernel_rfl) (fun h10 => ?_) (fun h10 => ?_)
           ·
            refine H.kd 16 (fun b => b) (0 < (↑(ByteArray.size (List.getD l (0 + Int.toNat (↑i : Int)) ByteArray.empty ++ sp1)) : Int)) (by (first | assumption | omega | exact Nat.ble_eq_true_of_le (by omega) | exact beq_self_eq_true _ | (rw [Nat.ble_eq_true_of_le (by omega)]; rfl))) (by kernel_rfl) ?_
            refine H.kd 8 (fun b => b) (1 < (↑(ByteArray.size (List.getD l (0 + Int.toNat (↑i : Int)) ByteArray.empty ++ sp1)) : Int)) (by (first | assumption | omega | exact Nat.ble_eq_true_of_le (by omega) | exact beq_self_eq_true _ | (rw [Nat.ble_eq_true_of_le (by omega)]; rfl))) (by kernel_rfl) ?_
            refine H.kd 10 (fun b => b) (2 < (↑(ByteArray.size (List.getD l (0 + Int.toNat (↑i : Int)) ByteArray.empty ++ sp1)) : Int)) (by (first | assumption | omega | exact Nat.ble_eq_true_of_le (by omega) | exact beq_self_eq_true _ | (rw [Nat.ble_eq_true_of_le (by omega)]; rfl))) (by kernel_rfl) ?_
            refine H.kd 8 (fun b => (b == true)) ((↑i : Int) > 0) (by (first | assumption | omega | exact Nat.ble_eq_true_of_le (by omega) | exact beq_self_eq_true _ | (rw [Nat.ble_eq_true_of_le (by omega)]; rfl))) (by kernel_rfl) ?_
            refine H.se 6 (fun b => (!b)) (wr IntKind.i64 (wr IntKind.i64 (wr IntKind.i64 (100 * wr IntKind.i64 (wr IntKind.u8 (byteAt (List.getD l (0 + Int.toNat (↑i : Int)) ByteArray.empty ++ sp1) 0 - 48))) + wr IntKind.i64 (10 * wr IntKind.i64 (wr IntKind.u8 (byteAt (List.getD l (0 + Int.toNat (↑i : Int)) ByteArray.empty ++ sp1) 1 - 48)))) + wr IntKind.i64 (wr IntKind.u8 (byteAt (List.getD l (0 + Int.toNat (↑i : Int)) ByteArray.empty ++ sp1) 2 - 48)))) (rdC l i) (by kernel_rfl) (fun h11 => ?_) (fun h11 => ?_)
            ·
             refine H.kd 10 (fun b => b) ((↑(ByteArray.size (List.getD l (0 + Int.toNat (↑i : Int)) ByteArray.empty ++ sp1)) : Int) ≤ (↑(ByteArray.size (List.getD l (0 + Int.toNat (↑i : Int)) ByteArray.empty ++ sp1)) : Int)) (by (first | assumption | omega | exact Nat.ble_eq_true_of_le (by omega) | exact beq_self_eq_true _ | (rw [Nat.ble_eq_true_of_le (by omega)]; rfl))) (by kernel_rfl) ?_
             refine H.kd 1 (fun b => b) (4 ≤ (↑(ByteArray.size (List.getD l (0 + Int.toNat (↑i : Int)) ByteArray.empty ++ sp1)) : Int)) (by (first | assumption | omega | exact Nat.ble_eq_true_of_le (by omega) | exact beq_self_eq_true _ | (rw [Nat.ble_eq_true_of_le (by omega)]; rfl))) (by kernel_rfl) ?_
             refine H.kb 13 (fun b => b) (b := (Nat.ble (0 + i) i)) (d := true) (by (first | assumption | omega | exact Nat.ble_eq_true_of_le (by omega) | exact beq_self_eq_true _ | (rw [Nat.ble_eq_true_of_le (by omega)]; rfl))) (by kernel_rfl) ?_
             refine H.kb 0 (fun b => b) (b := (Nat.blt 0 16 && Nat.ble ((i + 1) * 16) 140737488355328)) (d := true) (by (first | assumption | omega | exact Nat.ble_eq_true_of_le (by omega) | exact beq_self_eq_true _ | (rw [Nat.ble_eq_true_of_le (by omega)]; rfl))) (by kernel_rfl) ?_
             refine H.sb 0 (fun b => b) (Nat.beq (i + 1) (i + 1) && Nat.beq 1 1) (by kernel_rfl) (fun h12 => ?_) (fun h12 => ?_)
             ·
              refine H.kd 5 (fun b => b) (3 < (↑(ByteArray.size (List.getD l (0 + Int.toNat (↑i : Int)) ByteArray.empty ++ sp1)) : Int)) (by (first | assumption | omega | exact Nat.ble_eq_true_of_le (by omega) | exact beq_self_eq_true _ | (rw [Nat.ble_eq_true_of_le (by omega)]; rfl))) (by kernel_rfl) ?_
              refine H.lf (f := pL 1) 3 (Sum.inl ([AV.sl 0 0 n cap, AV.ptr 1 0 0, AV.ptr 2 0 0, AV.b (byteAt (List.getD l (0 + Int.toNat (↑i : Int)) ByteArray.empty ++ sp1) 3 == 45), AV.i IntKind.i64 (wr IntKind.i64 ((↑i : Int) + 1))], 1, [AObj.ro nl n [Col.cs l], AObj.own 26 2 [AV.i IntKind.i64 0, AV.v (Value.slice none 0 0)], AObj.own 26 2 [AV.i IntKind.i64 (wr IntKind.i64 (wr IntKind.i64 (wr IntKind.i64 (100 * wr IntKind.i64 (wr IntKind.u8 (byteAt (List.getD l (0 + Int.toNat (↑i : Int)) ByteArray.empty ++ sp1) 0 - 48))) + wr IntKind.i64 (10 * wr IntKind.i64 (wr IntKind.u8 (byteAt (List.getD l (0 + Int.toNat (↑i : Int)) ByteArray.empty ++ sp1) 1 - 48)))) + wr IntKind.i64 (wr IntKind.u8 (byteAt (List.getD l (0 + Int.toNat (↑i : Int)) ByteArray.empty ++ sp1) 2 - 48)))), AV.sl 3 0 (i + 1) none], AObj.vec 9 (i + 1) [Col.cs (List.take i (List.drop 0 (rdT l i)) ++ [ByteArray.extract (List.getD l (0 + Int.toNat (↑i : Int)) ByteArray.empty ++ sp1) 4 (ByteArray.size (List.getD l (0 + Int.toNat (↑i : Int)) ByteArray.empty ++ sp1))])]])) (by kernel_rfl) ?_
              obtain ⟨hn1, hn2⟩ := pg_N hz hr ⟨by omega, by omega, by omega, by omega, by omega, by omega, by omega, by omega, by assumption⟩ (.inr (by assumption))
              have hlt2 : n - (i + 1) < n - i := by omega
              have eT : List.take i (List.drop 0 (rdT l i)) ++ [ByteArray.extract (List.getD l (0 + Int.toNat (↑i : Int)) ByteArray.empty ++ sp1) 4 (ByteArray.size (List.getD l (0 + Int.toNat (↑i : Int)) ByteArray.empty ++ sp1))] = rdT l (i + 1) := rdT_next hl hi h0i hz.t
              have eC : wr .i64 (wr .i64 (wr .i64 (100 * wr .i64 (wr .u8 (byteAt (List.getD l (0 + Int.toNat (↑i : Int)) ByteArray.empty ++ sp1) 0 - 48))) + wr .i64 (10 * wr .i64 (wr .u8 (byteAt (List.getD l (0 + Int.toNat (↑i : Int)) ByteArray.empty ++ sp1) 1 - 48)))) + wr .i64 (wr .u8 (byteAt (List.getD l (0 + Int.toNat (↑i : Int)) ByteArray.empty ++ sp1) 2 - 48))) = rdC l (i + 1) := by rw [hn2, rdC_eq]; exact congrArg lnC hX1
              have eM : (byteAt (List.getD l (0 + Int.toNat (↑i : Int)) ByteArray.empty ++ sp1) 3 == 45) = lnM (List.getD l (0 + Int.toNat (↑i : Int)) ByteArray.empty) := hz.m.symm
              exact ⟨_, hlt2, i + 1, by omega, hn, rfl, .inr ⟨by omega, lnM (List.getD l (0 + Int.toNat (↑i : Int)) ByteArray.empty), fun hh => by rw [hz.m]; (first | (rw [h10]; rfl) | (exfalso; omega)), by rw [← eC, hn2]; exact hn1, by (rw [eM, eC, eT, wrN (by omega)]) <;> rfl⟩⟩
             ·
              exfalso
              have hsz : (ByteArray.extract (List.getD l (0 + Int.toNat (↑i : Int)) ByteArray.empty ++ sp1) 4 (ByteArray.size (List.getD l (0 + Int.toNat (↑i : Int)) ByteArray.empty ++ sp1))).size ≤ 10000 := by rw [ByteArray.size_extract]; omega
              first | exact ble_f (by assumption) (by omega) | exact absurd (show (Nat.beq (i + 1) (i + 1) && Nat.beq 1 1) = false by assumption) (by rw [Nat.beq_refl]; decide)
            ·
             refine H.lf (f := pL 1) 6 (Sum.inr (Sum.inl (AV.tup [AV.agg [AV.i IntKind.i64 0, AV.v (Value.slice none 0 0)], AV.i IntKind.i64 1], []))) (by kernel_rfl) ?_
             first | exact hp1 (pg_E hz hr (fun h => by obtain ⟨q1, q2, q3, q4, q5, q6, q7, q8, q9⟩ := h; first | omega | exact absurd (q9.symm.trans (show _ = false by assumption)) (by decide))) | exact hp1 (pg_C hz hr ⟨by omega, by omega, by omega, by omega, by omega, by omega⟩ (by assumption)) | exact hp1 (pg_L hz hr (by assumption) (by rw [← List.length_pos_iff, List.length_drop, hl.1]; omega))
           ·
            refine H.kd 2 (fun b => b) (3 < (↑(ByteArray.size (List.getD l (0 + Int.toNat (↑i : Int)) ByteArray.empty ++ sp1)) : Int)) (by (first | assumption | omega | exact Nat.ble_eq_true_of_le (by omega) | exact beq_self_eq_true _ | (rw [Nat.ble_eq_true_of_le (by omega)]; rfl))) (by kernel_rfl) ?_
            refine H.se 3 (fun b => ((!b) == false)) (byteAt (List.getD l (0 + Int.toNat (↑i : Int)) ByteArray.empty ++ sp1) 3) (32) (by kernel_rfl) (fun h11 => ?_) (fun h11 => ?_)
            ·
             refine H.sd 11 (fun b => b) ((↑i : Int) < wr IntKind.i64 ((↑n : Int) - 1)) (by kernel_rfl) (fun h12 => ?_) (fun h12 => ?_)
             ·
              refine H.lf (f := pL 1) 6 (Sum.inr (Sum.inl (AV.tup [AV.agg [AV.i IntKind.i64 0, AV.v (Value.slice none 0 0)], AV.i IntKind.i64 1], []))) (by kernel_rfl) ?_
              first | exact hp1 (pg_E hz hr (fun h => by obtain ⟨q1, q2, q3, q4, q5, q6, q7, q8, q9⟩ := h; first | omega | exact absurd (q9.symm.trans (show _ = false by assumption)) (by decide))) | exact hp1 (pg_C hz hr ⟨by omega, by omega, by omega, by omega, by omega, by omega⟩ (by assumption)) | exact hp1 (pg_L hz hr (by assumption) (by rw [← List.length_pos_iff, List.length_drop, hl.1]; omega))
             ·
              refine H.kd 3 (fun b => b) (0 < (↑(ByteArray.size (List.getD l (0 + Int.toNat (↑i : Int)) ByteArray.empty ++ sp1)) : Int)) (by (first | assumption | omega | exact Nat.ble_eq_true_of_le (by omega) | exact beq_self_eq_true _ | (rw [Nat.ble_eq_true_of_le (by omega)]; rfl))) (by kernel_rfl) ?_
              refine H.kd 8 (fun b => b) (1 < (↑(ByteArray.size (List.getD l (0 + Int.toNat (↑i : Int)) ByteArray.empty ++ sp1)) : Int)) (by (first | assumption | omega | exact Nat.ble_eq_true_of_le (by omega) | exact beq_self_eq_true _ | (rw [Nat.ble_eq_true_of_le (by omega)]; rfl))) (by kernel_rfl) ?_
              refine H.kd 10 (fun b => b) (2 < (↑(ByteArray.size (List.getD l (0 + Int.toNat (↑i : Int)) ByteArray.empty ++ sp1)) : Int)) (by (first | assumption | omega | exact Nat.ble_eq_true_of_le (by omega) | exact beq_self_eq_true _ | (rw [Nat.ble_eq_true_of_le (by omega)]; rfl))) (by kernel_rfl) ?_
              refine H.kd 8 (fun b => (b == true)) ((↑i : Int) > 0) (by (first | assumption | omega | exact Nat.ble_eq_true_of_le (by omega) | exact beq_self_eq_true _ | (rw [Nat.ble_eq_true_of_le (by omega)]; rfl))) (by kernel_rfl) ?_
              refine H.se 6 (fun b => (!b)) (wr IntKind.i64 (wr IntKind.i64 (wr IntKind.i64 (100 * wr IntKind.i64 (wr IntKind.u8 (byteAt (List.getD l (0 + Int.toNat (↑i : Int)) ByteArray.empty ++ sp1) 0 - 48))) + wr IntKind.i64 (10 * wr IntKind.i64 (wr IntKind.u8 (byteAt (List.getD l (0 + Int.toNat (↑i : Int)) ByteArray.empty ++ sp1) 1 - 48)))) + wr IntKind.i64 (wr IntKind.u8 (byteAt (List.getD l (0 + Int.toNat (↑i : Int)) ByteArray.empty ++ sp1) 2 - 48)))) (rdC l i) (by kernel_rfl) (fun h13 => ?_) (fun h13 => ?_)
              ·
               refine H.kd 10 (fun b => b) ((↑(ByteArray.size (List.getD l (0 + Int.toNat (↑i : Int)) ByteArray.empty ++ sp1)) : Int) ≤ (↑(ByteArray.size (List.getD l (0 + Int.toNat (↑i : Int)) ByteArray.empty ++ sp1)) : Int)) (by (first | assumption | omega | exact Nat.ble_eq_true_of_le (by omega) | exact beq_self_eq_true _ | (rw [Nat.ble_eq_true_of_le (by omega)]; rfl))) (by kernel_rfl) ?_
               refine H.kd 1 (fun b => b) (4 ≤ (↑(ByteArray.size (List.getD l (0 + Int.toNat (↑i : Int)) ByteArray.empty ++ sp1)) : Int)) (by (first | assumption | omega | exact Nat.ble_eq_true_of_le (by omega) | exact beq_self_eq_true _ | (rw [Nat.ble_eq_true_of_le (by omega)]; rfl))) (by kernel_rfl) ?_
               refine H.kb 13 (fun b => b) (b := (Nat.ble (0 + i) i)) (d := true) (by (first | assumption | omega | exact Nat.ble_eq_true_of_le (by omega) | exact beq_self_eq_true _ | (rw [Nat.ble_eq_true_of_le (by omega)]; rfl))) (by kernel_rfl) ?_
               refine H.kb 0 (fun b => b) (b := (Nat.blt 0 16 && Nat.ble ((i + 1) * 16) 140737488355328)) (d := true) (by (first | assumption | omega | exact Nat.ble_eq_true_of_le (by omega) | exact beq_self_eq_true _ | (rw [Nat.ble_eq_true_of_le (by omega)]; rfl))) (by kernel_rfl) ?_
               refine H.sb 0 (fun b => b) (Nat.beq (i + 1) (i + 1) && Nat.beq 1 1) (by kernel_rfl) (fun h14 => ?_) (fun h14 => ?_)
               ·
                refine H.kd 5 (fun b => b) (3 < (↑(ByteArray.size (List.getD l (0 + Int.toNat (↑i : Int)) ByteArray.empty ++ sp1)) : Int)) (by (first | assumption | omega | exact Nat.ble_eq_true_of_le (by omega) | exact beq_self_eq_true _ | (rw [Nat.ble_eq_true_of_le (by omega)]; rfl))) (by kernel_rfl) ?_
                refine H.lf (f := pL 1) 3 (Sum.inl ([AV.sl 0 0 n cap, AV.ptr 1 0 0, AV.ptr 2 0 0, AV.b (byteAt (List.getD l (0 + Int.toNat (↑i : Int)) ByteArray.empty ++ sp1) 3 == 45), AV.i IntKind.i64 (wr IntKind.i64 ((↑i : Int) + 1))], 1, [AObj.ro nl n [Col.cs l], AObj.own 26 2 [AV.i IntKind.i64 0, AV.v (Value.slice none 0 0)], AObj.own 26 2 [AV.i IntKind.i64 (wr IntKind.i64 (wr IntKind.i64 (wr IntKind.i64 (100 * wr IntKind.i64 (wr IntKind.u8 (byteAt (List.getD l (0 + Int.toNat (↑i : Int)) ByteArray.empty ++ sp1) 0 - 48))) + wr IntKind.i64 (10 * wr IntKind.i64 (wr IntKind.u8 (byteAt (List.getD l (0 + Int.toNat (↑i : Int)) ByteArray.empty ++ sp1) 1 - 48)))) + wr IntKind.i64 (wr IntKind.u8 (byteAt (List.getD l (0 + Int.toNat (↑i : Int)) ByteArray.empty ++ sp1) 2 - 48)))), AV.sl 3 0 (i + 1) none], AObj.vec 9 (i + 1) [Col.cs (List.take i (List.drop 0 (rdT l i)) ++ [ByteArray.extract (List.getD l (0 + Int.toNat (↑i : Int)) ByteArray.empty ++ sp1) 4 (ByteArray.size (List.getD l (0 + Int.toNat (↑i : Int)) ByteArray.empty ++ sp1))])]])) (by kernel_rfl) ?_
                obtain ⟨hn1, hn2⟩ := pg_N hz hr ⟨by omega, by omega, by omega, by omega, by omega, by omega, by omega, by omega, by assumption⟩ (.inr (by assumption))
                have hlt2 : n - (i + 1) < n - i := by omega
                have eT : List.take i (List.drop 0 (rdT l i)) ++ [ByteArray.extract (List.getD l (0 + Int.toNat (↑i : Int)) ByteArray.empty ++ sp1) 4 (ByteArray.size (List.getD l (0 + Int.toNat (↑i : Int)) ByteArray.empty ++ sp1))] = rdT l (i + 1) := rdT_next hl hi h0i hz.t
                have eC : wr .i64 (wr .i64 (wr .i64 (100 * wr .i64 (wr .u8 (byteAt (List.getD l (0 + Int.toNat (↑i : Int)) ByteArray.empty ++ sp1) 0 - 48))) + wr .i64 (10 * wr .i64 (wr .u8 (byteAt (List.getD l (0 + Int.toNat (↑i : Int)) ByteArray.empty ++ sp1) 1 - 48)))) + wr .i64 (wr .u8 (byteAt (List.getD l (0 + Int.toNat (↑i : Int)) ByteArray.empty ++ sp1) 2 - 48))) = rdC l (i + 1) := by rw [hn2, rdC_eq]; exact congrArg lnC hX1
                have eM : (byteAt (List.getD l (0 + Int.toNat (↑i : Int)) ByteArray.empty ++ sp1) 3 == 45) = lnM (List.getD l (0 + Int.toNat (↑i : Int)) ByteArray.empty) := hz.m.symm
                exact ⟨_, hlt2, i + 1, by omega, hn, rfl, .inr ⟨by omega, lnM (List.getD l (0 + Int.toNat (↑i : Int)) ByteArray.empty), fun hh => by rw [hz.m]; (first | (rw [h10]; rfl) | (exfalso; omega)), by rw [← eC, hn2]; exact hn1, by (rw [eM, eC, eT, wrN (by omega)]) <;> rfl⟩⟩
               ·
                exfalso
                have hsz : (ByteArray.extract (List.getD l (0 + Int.toNat (↑i : Int)) ByteArray.empty ++ sp1) 4 (ByteArray.size (List.getD l (0 + Int.toNat (↑i : Int)) ByteArray.empty ++ sp1))).size ≤ 10000 := by rw [ByteArray.size_extract]; omega
                first | exact ble_f (by assumption) (by omega) | exact absurd (show (Nat.beq (i + 1) (i + 1) && Nat.beq 1 1) = false by assumption) (by rw [Nat.beq_refl]; decide)
              ·
               refine H.lf (f := pL 1) 6 (Sum.inr (Sum.inl (AV.tup [AV.agg [AV.i IntKind.i64 0, AV.v (Value.slice none 0 0)], AV.i IntKind.i64 1], []))) (by kernel_rfl) ?_
               first | exact hp1 (pg_E hz hr (fun h => by obtain ⟨q1, q2, q3, q4, q5, q6, q7, q8, q9⟩ := h; first | omega | exact absurd (q9.symm.trans (show _ = false by assumption)) (by decide))) | exact hp1 (pg_C hz hr ⟨by omega, by omega, by omega, by omega, by omega, by omega⟩ (by assumption)) | exact hp1 (pg_L hz hr (by assumption) (by rw [← List.length_pos_iff, List.length_drop, hl.1]; omega))
            ·
             refine H.lf (f := pL 1) 16 (Sum.inr (Sum.inl (AV.tup [AV.agg [AV.i IntKind.i64 0, AV.v (Value.slice none 0 0)], AV.i IntKind.i64 1], []))) (by kernel_rfl) ?_
             first | exact hp1 (pg_E hz hr (fun h => by obtain ⟨q1, q2, q3, q4, q5, q6, q7, q8, q9⟩ := h; first | omega | exact absurd (q9.symm.trans (show _ = false by assumption)) (by decide))) | exact hp1 (pg_C hz hr ⟨by omega, by omega, by omega, by omega, by omega, by omega⟩ (by assumption)) | exact hp1 (pg_L hz hr (by assumption) (by rw [← List.length_pos_iff, List.length_drop, hl.1]; omega))
    ·
     refine H.lf (f := pL 1) 46 (Sum.inr (Sum.inl (AV.tup [AV.agg [AV.i IntKind.i64 0, AV.v (Value.slice none 0 0)], AV.i IntKind.i64 1], []))) (by kernel_rfl) ?_
     first | exact hp1 (pg_E hz hr (fun h => by obtain ⟨q1, q2, q3, q4, q5, q6, q7, q8, q9⟩ := h; first | omega | exact absurd (q9.symm.trans (show _ = false by assumption)) (by decide))) | exact hp1 (pg_C hz hr ⟨by omega, by omega, by omega, by omega, by omega, by omega⟩ (by assumption)) | exact hp1 (pg_L hz hr (by assumption) (by rw [← List.length_pos_iff, List.length_drop, hl.1]; omega))
   ·
    exfalso
    have hsz : (ByteArray.extract (List.getD l (0 + Int.toNat (↑i : Int)) ByteArray.empty ++ sp1) 4 (ByteArray.size (List.getD l (0 + Int.toNat (↑i : Int)) ByteArray.empty ++ sp1))).size ≤ 10000 := by rw [ByteArray.size_extract]; omega
    first | exact ble_f (by assumption) (by omega) | exact absurd (show (Nat.beq (i + 1) (i + 1) && Nat.beq 1 1) = false by assumption) (by rw [Nat.beq_refl]; decide)
  ·
   exfalso
   have hsz : (ByteArray.extract (List.getD l (0 + Int.toNat (↑i : Int)) ByteArray.empty ++ sp1) 4 (ByteArray.size (List.getD l (0 + Int.toNat (↑i : Int)) ByteArray.empty ++ sp1))).size ≤ 10000 := by rw [ByteArray.size_extract]; omega
   first | exact ble_f (by assumption) (by omega) | exact absurd (show (Nat.beq (i + 1) (i + 1) && Nat.beq 1 1) = false by assumption) (by rw [Nat.beq_refl]; decide)
theorem s9b4 {nl : Bool} {n : Nat} {cap : Option Nat} {l : List ByteArray} {Q : An → Prop} (hq : rdE l n = 0 → Q (.tup [.agg [iv (rdC l n), .sl 1 0 n none], iv 0], [.vec 9 n [.cs (rdT l n)]])) (hp7 : rdE l n = 7 → Q (.tup [.agg [iv 0, .v (.slice none 0 0)], iv 7], [])) (hp1 : rdE l n = 1 → Q (.tup [.agg [iv 0, .v (.slice none 0 0)], iv 1], [])) (hl : okL l n) (hn : n ≤ 16) {i : Nat} (hi : (i : Int) < n) (h0i : 0 < i) {opn : Bool} (ho : opn = true) (hx3 : ByteArray.size (List.getD l (0 + Int.toNat (↑i : Int)) ByteArray.empty) ≠ 3) (hr0 : rdV (l.drop i) false opn (rdC l i) = rdE l n) :
    H (lawL S27 (fi9 false) 1 [1,1,1,1,0,1,0] 3 [.sl 0 0 n cap] ([.sl 0 0 n cap, .ptr 1 0 0, .ptr 2 0 0, .b opn, iv i], 1, [.ro nl n [.cs l], .own 26 2 [iv 0, .v (.slice none 0 0)], .own 26 2 [iv (rdC l i), .sl 3 0 i none], .vec 9 i [.cs (rdT l i)]])) (OkS (fun s' => ∃ m', m' < n - i ∧ I9 nl n cap l m' s') (OkY (fun x => Q (resV 1 x)) (fun _ => False))) F0 := by
  subst ho
  have hz : ZOf (List.getD l (0 + Int.toNat (↑i : Int)) ByteArray.empty) (List.getD l (0 + Int.toNat (↑i : Int)) ByteArray.empty) := z4 hx3
  have hs := hl.2.2 (0 + Int.toNat (i : Int))
  have hd := drop_at hl hi
  have hX1 : l.getD (0 + Int.toNat (i : Int)) ByteArray.empty = l.getD (i + 1 - 1) ByteArray.empty := by rw [show 0 + Int.toNat (i : Int) = i + 1 - 1 by omega]
  have wn1 : wr .i64 ((n : Int) - 1) = (n : Int) - 1 := wr64 (by omega) (by omega)
  skip
  have sp1s : ByteArray.size sp1 = 1 := rfl
  have hx : (↑(ByteArray.size (List.getD l (0 + Int.toNat (↑i : Int)) ByteArray.empty)) : Int) ≠ 3 := by omega
  have hr : rdV ((List.getD l (0 + Int.toNat (↑i : Int)) ByteArray.empty) :: l.drop (i + 1)) false true (rdC l i) = rdE l n := by rw [← hd]; exact hr0
  skip
  skip
  refine pL_Q (k := 1) ?_
  refine H.kd 1 (fun b => b) ((↑i : Int) < (↑n : Int)) (by (first | assumption | omega | exact Nat.ble_eq_true_of_le (by omega) | exact beq_self_eq_true _ | (rw [Nat.ble_eq_true_of_le (by omega)]; rfl))) (by kernel_rfl) ?_
  refine H.kd 2 (fun b => b) ((↑i : Int) < (↑n : Int)) (by (first | assumption | omega | exact Nat.ble_eq_true_of_le (by omega) | exact beq_self_eq_true _ | (rw [Nat.ble_eq_true_of_le (by omega)]; rfl))) (by kernel_rfl) ?_
  refine H.kl 0 (fun b => b) (0 + Int.toNat (↑i : Int)) (n) (by (first | assumption | omega | exact Nat.ble_eq_true_of_le (by omega) | exact beq_self_eq_true _ | (rw [Nat.ble_eq_true_of_le (by omega)]; rfl))) (by kernel_rfl) ?_
  refine H.ne 1 (fun b => b) ((↑(ByteArray.size (List.getD l (0 + Int.toNat (↑i : Int)) ByteArray.empty)) : Int)) (3) (by (first | assumption | omega | exact Nat.ble_eq_true_of_le (by omega) | exact beq_self_eq_true _ | (rw [Nat.ble_eq_true_of_le (by omega)]; rfl))) (by kernel_rfl) ?_
  refine H.sd 1 (fun b => (b == false)) ((↑(ByteArray.size (List.getD l (0 + Int.toNat (↑i : Int)) ByteArray.empty)) : Int) < 4) (by kernel_rfl) (fun h1 => ?_) (fun h1 => ?_)
  ·
   refine H.lf (f := pL 1) 51 (Sum.inr (Sum.inl (AV.tup [AV.agg [AV.i IntKind.i64 0, AV.v (Value.slice none 0 0)], AV.i IntKind.i64 1], []))) (by kernel_rfl) ?_
   first | exact hp1 (pg_E hz hr (fun h => by obtain ⟨q1, q2, q3, q4, q5, q6, q7, q8, q9⟩ := h; first | omega | exact absurd (q9.symm.trans (show _ = false by assumption)) (by decide))) | exact hp1 (pg_C hz hr ⟨by omega, by omega, by omega, by omega, by omega, by omega⟩ (by assumption)) | exact hp1 (pg_L hz hr (by assumption) (by rw [← List.length_pos_iff, List.length_drop, hl.1]; omega))
  ·
   refine H.kd 2 (fun b => b) ((↑(ByteArray.size (List.getD l (0 + Int.toNat (↑i : Int)) ByteArray.empty)) : Int) ≤ (↑(ByteArray.size (List.getD l (0 + Int.toNat (↑i : Int)) ByteArray.empty)) : Int)) (by (first | assumption | omega | exact Nat.ble_eq_true_of_le (by omega) | exact beq_self_eq_true _ | (rw [Nat.ble_eq_true_of_le (by omega)]; rfl))) (by kernel_rfl) ?_
   refine H.kd 1 (fun b => b) (4 ≤ (↑(ByteArray.size (List.getD l (0 + Int.toNat (↑i : Int)) ByteArray.empty)) : Int)) (by (first | assumption | omega | exact Nat.ble_eq_true_of_le (by omega) | exact beq_self_eq_true _ | (rw [Nat.ble_eq_true_of_le (by omega)]; rfl))) (by kernel_rfl) ?_
   refine H.sb 2 (fun b => b) (Nat.ble (ByteArray.size (ByteArray.extract (List.getD l (0 + Int.toNat (↑i : Int)) ByteArray.empty) 4 (ByteArray.size (List.getD l (0 + Int.toNat (↑i : Int)) ByteArray.empty)))) 10000) (by kernel_rfl) (fun h2 => ?_) (fun h2 => ?_)
   ·
    refine H.sb 3 (fun b => ((!b) == false)) (wdO (ByteArray.extract (List.getD l (0 + Int.toNat (↑i : Int)) ByteArray.empty) 4 (ByteArray.size (List.getD l (0 + Int.toNat (↑i : Int)) ByteArray.empty)))) (by kernel_rfl) (fun h3 => ?_) (fun h3 => ?_)
    ·
     refine H.kd 2 (fun b => b) (0 < (↑(ByteArray.size (List.getD l (0 + Int.toNat (↑i : Int)) ByteArray.empty)) : Int)) (by (first | assumption | omega | exact Nat.ble_eq_true_of_le (by omega) | exact beq_self_eq_true _ | (rw [Nat.ble_eq_true_of_le (by omega)]; rfl))) (by kernel_rfl) ?_
     refine H.sd 3 (fun b => (b == false)) (byteAt (List.getD l (0 + Int.toNat (↑i : Int)) ByteArray.empty) 0 < 50) (by kernel_rfl) (fun h4 => ?_) (fun h4 => ?_)
     ·
      refine H.lf (f := pL 1) 42 (Sum.inr (Sum.inl (AV.tup [AV.agg [AV.i IntKind.i64 0, AV.v (Value.slice none 0 0)], AV.i IntKind.i64 1], []))) (by kernel_rfl) ?_
      first | exact hp1 (pg_E hz hr (fun h => by obtain ⟨q1, q2, q3, q4, q5, q6, q7, q8, q9⟩ := h; first | omega | exact absurd (q9.symm.trans (show _ = false by assumption)) (by decide))) | exact hp1 (pg_C hz hr ⟨by omega, by omega, by omega, by omega, by omega, by omega⟩ (by assumption)) | exact hp1 (pg_L hz hr (by assumption) (by rw [← List.length_pos_iff, List.length_drop, hl.1]; omega))
     ·
      refine H.kd 2 (fun b => b) (0 < (↑(ByteArray.size (List.getD l (0 + Int.toNat (↑i : Int)) ByteArray.empty)) : Int)) (by (first | assumption | omega | exact Nat.ble_eq_true_of_le (by omega) | exact beq_self_eq_true _ | (rw [Nat.ble_eq_true_of_le (by omega)]; rfl))) (by kernel_rfl) ?_
      refine H.sd 3 (fun b => (b == false)) (byteAt (List.getD l (0 + Int.toNat (↑i : Int)) ByteArray.empty) 0 > 53) (by kernel_rfl) (fun h5 => ?_) (fun h5 => ?_)
      ·
       refine H.lf (f := pL 1) 38 (Sum.inr (Sum.inl (AV.tup [AV.agg [AV.i IntKind.i64 0, AV.v (Value.slice none 0 0)], AV.i IntKind.i64 1], []))) (by kernel_rfl) ?_
       first | exact hp1 (pg_E hz hr (fun h => by obtain ⟨q1, q2, q3, q4, q5, q6, q7, q8, q9⟩ := h; first | omega | exact absurd (q9.symm.trans (show _ = false by assumption)) (by decide))) | exact hp1 (pg_C hz hr ⟨by omega, by omega, by omega, by omega, by omega, by omega⟩ (by assumption)) | exact hp1 (pg_L hz hr (by assumption) (by rw [← List.length_pos_iff, List.length_drop, hl.1]; omega))
      ·
       refine H.kd 2 (fun b => b) (1 < (↑(ByteArray.size (List.getD l (0 + Int.toNat (↑i : Int)) ByteArray.empty)) : Int)) (by (first | assumption | omega | exact Nat.ble_eq_true_of_le (by omega) | exact beq_self_eq_true _ | (rw [Nat.ble_eq_true_of_le (by omega)]; rfl))) (by kernel_rfl) ?_
       refine H.sd 3 (fun b => (b == false)) (byteAt (List.getD l (0 + Int.toNat (↑i : Int)) ByteArray.empty) 1 < 48) (by kernel_rfl) (fun h6 => ?_) (fun h6 => ?_)
       ·
        refine H.lf (f := pL 1) 34 (Sum.inr (Sum.inl (AV.tup [AV.agg [AV.i IntKind.i64 0, AV.v (Value.slice none 0 0)], AV.i IntKind.i64 1], []))) (by kernel_rfl) ?_
        first | exact hp1 (pg_E hz hr (fun h => by obtain ⟨q1, q2, q3, q4, q5, q6, q7, q8, q9⟩ := h; first | omega | exact absurd (q9.symm.trans (show _ = false by assumption)) (by decide))) | exact hp1 (pg_C hz hr ⟨by omega, by omega, by omega, by omega, by omega, by omega⟩ (by assumption)) | exact hp1 (pg_L hz hr (by assumption) (by rw [← List.length_pos_iff, List.length_drop, hl.1]; omega))
       ·
        refine H.kd 2 (fun b => b) (1 < (↑(ByteArray.size (List.getD l (0 + Int.toNat (↑i : Int)) ByteArray.empty)) : Int)) (by (first | assumption | omega | exact Nat.ble_eq_true_of_le (by omega) | exact beq_self_eq_true _ | (rw [Nat.ble_eq_true_of_le (by omega)]; rfl))) (by kernel_rfl) ?_
        refine H.sd 3 (fun b => (b == false)) (byteAt (List.getD l (0 + Int.toNat (↑i : Int)) ByteArray.empty) 1 > 57) (by kernel_rfl) (fun h7 => ?_) (fun h7 => ?_)
        ·
         refine H.lf (f := pL 1) 30 (Sum.inr (Sum.inl (AV.tup [AV.agg [AV.i IntKind.i64 0, AV.v (Value.slice none 0 0)], AV.i IntKind.i64 1], []))) (by kernel_rfl) ?_
         first | exact hp1 (pg_E hz hr (fun h => by obtain ⟨q1, q2, q3, q4, q5, q6, q7, q8, q9⟩ := h; first | omega | exact absurd (q9.symm.trans (show _ = false by assumption)) (by decide))) | exact hp1 (pg_C hz hr ⟨by omega, by omega, by omega, by omega, by omega, by omega⟩ (by assumption)) | exact hp1 (pg_L hz hr (by assumption) (by rw [← List.length_pos_iff, List.length_drop, hl.1]; omega))
        ·
         refine H.kd 2 (fun b => b) (2 < (↑(ByteArray.size (List.getD l (0 + Int.toNat (↑i : Int)) ByteArray.empty)) : Int)) (by (first | assumption | omega | exact Nat.ble_eq_true_of_le (by omega) | exact beq_self_eq_true _ | (rw [Nat.ble_eq_true_of_le (by omega)]; rfl))) (by kernel_rfl) ?_
         refine H.sd 3 (fun b => (b == false)) (byteAt (List.getD l (0 + Int.toNat (↑i : Int)) ByteArray.empty) 2 < 48) (by kernel_rfl) (fun h8 => ?_) (fun h8 => ?_)
         ·
          refine H.lf (f := pL 1) 26 (Sum.inr (Sum.inl (AV.tup [AV.agg [AV.i IntKind.i64 0, AV.v (Value.slice none 0 0)], AV.i IntKind.i64 1], []))) (by kernel_rfl) ?_
          first | exact hp1 (pg_E hz hr (fun h => by obtain ⟨q1, q2, q3, q4, q5, q6, q7, q8, q9⟩ := h; first | omega | exact absurd (q9.symm.trans (show _ = false by assumption)) (by decide))) | exact hp1 (pg_C hz hr ⟨by omega, by omega, by omega, by omega, by omega, by omega⟩ (by assumption)) | exact hp1 (pg_L hz hr (by assumption) (by rw [← List.length_pos_iff, List.length_drop, hl.1]; omega))
         ·
          refine H.kd 2 (fun b => b) (2 < (↑(ByteArray.size (List.getD l (0 + Int.toNat (↑i : Int)) ByteArray.empty)) : Int)) (by (first | assumption | omega | exact Nat.ble_eq_true_of_le (by omega) | exact beq_self_eq_true _ | (rw [Nat.ble_eq_true_of_le (by omega)]; rfl))) (by kernel_rfl) ?_
          refine H.sd 3 (fun b => (b == false)) (byteAt (List.getD l (0 + Int.toNat (↑i : Int)) ByteArray.empty) 2 > 57) (by kernel_rfl) (fun h9 => ?_) (fun h9 => ?_)
          ·
           refine H.lf (f := pL 1) 22 (Sum.inr (Sum.inl (AV.tup [AV.agg [AV.i IntKind.i64 0, AV.v (Value.slice none 0 0)], AV.i IntKind.i64 1], []))) (by kernel_rfl) ?_
           first | exact hp1 (pg_E hz hr (fun h => by obtain ⟨q1, q2, q3, q4, q5, q6, q7, q8, q9⟩ := h; first | omega | exact absurd (q9.symm.trans (show _ = false by assumption)) (by decide))) | exact hp1 (pg_C hz hr ⟨by omega, by omega, by omega, by omega, by omega, by omega⟩ (by assumption)) | exact hp1 (pg_L hz hr (by assumption) (by rw [← List.length_pos_iff, List.length_drop, hl.1]; omega))
          ·
           refine H.kd 2 (fun b => b) (3 < (↑(ByteArray.size (List.getD l (0 + Int.toNat (↑i : Int)) ByteArray.empty)) : Int)) (by (first | assumption | omega | exact Nat.ble_eq_true_of_le (by omega) | exact beq_self_eq_true _ | (rw [Nat.ble_eq_true_of_le (by omega)]; rfl))) (by kernel_rfl) ?_
           refine H.se 3 (fun b => ((!b) == true)) (byteAt (List.getD l (0 + Int.toNat (↑i : Int)) ByteArray.empty) 3) (45) (by kernel_rfl) (fun h10 => ?_) (fun h10 => ?_)
           ·
            refine H.kd 16 (fun b => b) (0 < (↑(ByteArray.size (List.getD l (0 + Int.toNat (↑i : Int)) ByteArray.empty)) : Int)) (by (first | assumption | omega | exact Nat.ble_eq_true_of_le (by omega) | exact beq_self_eq_true _ | (rw [Nat.ble_eq_true_of_le (by omega)]; rfl))) (by kernel_rfl) ?_
            refine H.kd 8 (fun b => b) (1 < (↑(ByteArray.size (List.getD l (0 + Int.toNat (↑i : Int)) ByteArray.empty)) : Int)) (by (first | assumption | omega | exact Nat.ble_eq_true_of_le (by omega) | exact beq_self_eq_true _ | (rw [Nat.ble_eq_true_of_le (by omega)]; rfl))) (by kernel_rfl) ?_
            refine H.kd 10 (fun b => b) (2 < (↑(ByteArray.size (List.getD l (0 + Int.toNat (↑i : Int)) ByteArray.empty)) : Int)) (by (first | assumption | omega | exact Nat.ble_eq_true_of_le (by omega) | exact beq_self_eq_true _ | (rw [Nat.ble_eq_true_of_le (by omega)]; rfl))) (by kernel_rfl) ?_
            refine H.kd 8 (fun b => (b == true)) ((↑i : Int) > 0) (by (first | assumption | omega | exact Nat.ble_eq_true_of_le (by omega) | exact beq_self_eq_true _ | (rw [Nat.ble_eq_true_of_le (by omega)]; rfl))) (by kernel_rfl) ?_
            refine H.se 6 (fun b => (!b)) (wr IntKind.i64 (wr IntKind.i64 (wr IntKind.i64 (100 * wr IntKind.i64 (wr IntKind.u8 (byteAt (List.getD l (0 + Int.toNat (↑i : Int)) ByteArray.empty) 0 - 48))) + wr IntKind.i64 (10 * wr IntKind.i64 (wr IntKind.u8 (byteAt (List.getD l (0 + Int.toNat (↑i : Int)) ByteArray.empty) 1 - 48)))) + wr IntKind.i64 (wr IntKind.u8 (byteAt (List.getD l (0 + Int.toNat (↑i : Int)) ByteArray.empty) 2 - 48)))) (rdC l i) (by kernel_rfl) (fun h11 => ?_) (fun h11 => ?_)
            ·
             refine H.kd 10 (fun b => b) ((↑(ByteArray.size (List.getD l (0 + Int.toNat (↑i : Int)) ByteArray.empty)) : Int) ≤ (↑(ByteArray.size (List.getD l (0 + Int.toNat (↑i : Int)) ByteArray.empty)) : Int)) (by (first | assumption | omega | exact Nat.ble_eq_true_of_le (by omega) | exact beq_self_eq_true _ | (rw [Nat.ble_eq_true_of_le (by omega)]; rfl))) (by kernel_rfl) ?_
             refine H.kd 1 (fun b => b) (4 ≤ (↑(ByteArray.size (List.getD l (0 + Int.toNat (↑i : Int)) ByteArray.empty)) : Int)) (by (first | assumption | omega | exact Nat.ble_eq_true_of_le (by omega) | exact beq_self_eq_true _ | (rw [Nat.ble_eq_true_of_le (by omega)]; rfl))) (by kernel_rfl) ?_
             refine H.kb 13 (fun b => b) (b := (Nat.ble (0 + i) i)) (d := true) (by (first | assumption | omega | exact Nat.ble_eq_true_of_le (by omega) | exact beq_self_eq_true _ | (rw [Nat.ble_eq_true_of_le (by omega)]; rfl))) (by kernel_rfl) ?_
             refine H.kb 0 (fun b => b) (b := (Nat.blt 0 16 && Nat.ble ((i + 1) * 16) 140737488355328)) (d := true) (by (first | assumption | omega | exact Nat.ble_eq_true_of_le (by omega) | exact beq_self_eq_true _ | (rw [Nat.ble_eq_true_of_le (by omega)]; rfl))) (by kernel_rfl) ?_
             refine H.sb 0 (fun b => b) (Nat.beq (i + 1) (i + 1) && Nat.beq 1 1) (by kernel_rfl) (fun h12 => ?_) (fun h12 => ?_)
             ·
              refine H.kd 5 (fun b => b) (3 < (↑(ByteArray.size (List.getD l (0 + Int.toNat (↑i : Int)) ByteArray.empty)) : Int)) (by (first | assumption | omega | exact Nat.ble_eq_true_of_le (by omega) | exact beq_self_eq_true _ | (rw [Nat.ble_eq_true_of_le (by omega)]; rfl))) (by kernel_rfl) ?_
              refine H.lf (f := pL 1) 3 (Sum.inl ([AV.sl 0 0 n cap, AV.ptr 1 0 0, AV.ptr 2 0 0, AV.b (byteAt (List.getD l (0 + Int.toNat (↑i : Int)) ByteArray.empty) 3 == 45), AV.i IntKind.i64 (wr IntKind.i64 ((↑i : Int) + 1))], 1, [AObj.ro nl n [Col.cs l], AObj.own 26 2 [AV.i IntKind.i64 0, AV.v (Value.slice none 0 0)], AObj.own 26 2 [AV.i IntKind.i64 (wr IntKind.i64 (wr IntKind.i64 (wr IntKind.i64 (100 * wr IntKind.i64 (wr IntKind.u8 (byteAt (List.getD l (0 + Int.toNat (↑i : Int)) ByteArray.empty) 0 - 48))) + wr IntKind.i64 (10 * wr IntKind.i64 (wr IntKind.u8 (byteAt (List.getD l (0 + Int.toNat (↑i : Int)) ByteArray.empty) 1 - 48)))) + wr IntKind.i64 (wr IntKind.u8 (byteAt (List.getD l (0 + Int.toNat (↑i : Int)) ByteArray.empty) 2 - 48)))), AV.sl 3 0 (i + 1) none], AObj.vec 9 (i + 1) [Col.cs (List.take i (List.drop 0 (rdT l i)) ++ [ByteArray.extract (List.getD l (0 + Int.toNat (↑i : Int)) ByteArray.empty) 4 (ByteArray.size (List.getD l (0 + Int.toNat (↑i : Int)) ByteArray.empty))])]])) (by kernel_rfl) ?_
              obtain ⟨hn1, hn2⟩ := pg_N hz hr ⟨by omega, by omega, by omega, by omega, by omega, by omega, by omega, by omega, by assumption⟩ (.inr (by assumption))
              have hlt2 : n - (i + 1) < n - i := by omega
              have eT : List.take i (List.drop 0 (rdT l i)) ++ [ByteArray.extract (List.getD l (0 + Int.toNat (↑i : Int)) ByteArray.empty) 4 (ByteArray.size (List.getD l (0 + Int.toNat (↑i : Int)) ByteArray.empty))] = rdT l (i + 1) := rdT_next hl hi h0i hz.t
              have eC : wr .i64 (wr .i64 (wr .i64 (100 * wr .i64 (wr .u8 (byteAt (List.getD l (0 + Int.toNat (↑i : Int)) ByteArray.empty) 0 - 48))) + wr .i64 (10 * wr .i64 (wr .u8 (byteAt (List.getD l (0 + Int.toNat (↑i : Int)) ByteArray.empty) 1 - 48)))) + wr .i64 (wr .u8 (byteAt (List.getD l (0 + Int.toNat (↑i : Int)) ByteArray.empty) 2 - 48))) = rdC l (i + 1) := by rw [hn2, rdC_eq]; exact congrArg lnC hX1
              have eM : (byteAt (List.getD l (0 + Int.toNat (↑i : Int)) ByteArray.empty) 3 == 45) = lnM (List.getD l (0 + Int.toNat (↑i : Int)) ByteArray.empty) := hz.m.symm
              exact ⟨_, hlt2, i + 1, by omega, hn, rfl, .inr ⟨by omega, lnM (List.getD l (0 + Int.toNat (↑i : Int)) ByteArray.empty), fun hh => by rw [hz.m]; (first | (rw [h10]; rfl) | (exfalso; omega)), by rw [← eC, hn2]; exact hn1, by (rw [eM, eC, eT, wrN (by omega)]) <;> rfl⟩⟩
             ·
              exfalso
              have hsz : (ByteArray.extract (List.getD l (0 + Int.toNat (↑i : Int)) ByteArray.empty) 4 (ByteArray.size (List.getD l (0 + Int.toNat (↑i : Int)) ByteArray.empty))).size ≤ 10000 := by rw [ByteArray.size_extract]; omega
              first | exact ble_f (by assumption) (by omega) | exact absurd (show (Nat.beq (i + 1) (i + 1) && Nat.beq 1 1) = false by assumption) (by rw [Nat.beq_refl]; decide)
            ·
             refine H.lf (f := pL 1) 6 (Sum.inr (Sum.inl (AV.tup [AV.agg [AV.i IntKind.i64 0, AV.v (Value.slice none 0 0)], AV.i IntKind.i64 1], []))) (by kernel_rfl) ?_
             first | exact hp1 (pg_E hz hr (fun h => by obtain ⟨q1, q2, q3, q4, q5, q6, q7, q8, q9⟩ := h; first | omega | exact absurd (q9.symm.trans (show _ = false by assumption)) (by decide))) | exact hp1 (pg_C hz hr ⟨by omega, by omega, by omega, by omega, by omega, by omega⟩ (by assumption)) | exact hp1 (pg_L hz hr (by assumption) (by rw [← List.length_pos_iff, List.length_drop, hl.1]; omega))
           ·
            refine H.kd 2 (fun b => b) (3 < (↑(ByteArray.size (List.getD l (0 + Int.toNat (↑i : Int)) ByteArray.empty)) : Int)) (by (first | assumption | omega | exact Nat.ble_eq_true_of_le (by omega) | exact beq_self_eq_true _ | (rw [Nat.ble_eq_true_of_le (by omega)]; rfl))) (by kernel_rfl) ?_
            refine H.se 3 (fun b => ((!b) == false)) (byteAt (List.getD l (0 + Int.toNat (↑i : Int)) ByteArray.empty) 3) (32) (by kernel_rfl) (fun h11 => ?_) (fun h11 => ?_)
            ·
             refine H.sd 11 (fun b => b) ((↑i : Int) < wr IntKind.i64 ((↑n : Int) - 1)) (by kernel_rfl) (fun h12 => ?_) (fun h12 => ?_)
             ·
              refine H.lf (f := pL 1) 6 (Sum.inr (Sum.inl (AV.tup [AV.agg [AV.i IntKind.i64 0, AV.v (Value.slice none 0 0)], AV.i IntKind.i64 1], []))) (by kernel_rfl) ?_
              first | exact hp1 (pg_E hz hr (fun h => by obtain ⟨q1, q2, q3, q4, q5, q6, q7, q8, q9⟩ := h; first | omega | exact absurd (q9.symm.trans (show _ = false by assumption)) (by decide))) | exact hp1 (pg_C hz hr ⟨by omega, by omega, by omega, by omega, by omega, by omega⟩ (by assumption)) | exact hp1 (pg_L hz hr (by assumption) (by rw [← List.length_pos_iff, List.length_drop, hl.1]; omega))
             ·
              refine H.kd 3 (fun b => b) (0 < (↑(ByteArray.size (List.getD l (0 + Int.toNat (↑i : Int)) ByteArray.empty)) : Int)) (by (first | assumption | omega | exact Nat.ble_eq_true_of_le (by omega) | exact beq_self_eq_true _ | (rw [Nat.ble_eq_true_of_le (by omega)]; rfl))) (by kernel_rfl) ?_
              refine H.kd 8 (fun b => b) (1 < (↑(ByteArray.size (List.getD l (0 + Int.toNat (↑i : Int)) ByteArray.empty)) : Int)) (by (first | assumption | omega | exact Nat.ble_eq_true_of_le (by omega) | exact beq_self_eq_true _ | (rw [Nat.ble_eq_true_of_le (by omega)]; rfl))) (by kernel_rfl) ?_
              refine H.kd 10 (fun b => b) (2 < (↑(ByteArray.size (List.getD l (0 + Int.toNat (↑i : Int)) ByteArray.empty)) : Int)) (by (first | assumption | omega | exact Nat.ble_eq_true_of_le (by omega) | exact beq_self_eq_true _ | (rw [Nat.ble_eq_true_of_le (by omega)]; rfl))) (by kernel_rfl) ?_
              refine H.kd 8 (fun b => (b == true)) ((↑i : Int) > 0) (by (first | assumption | omega | exact Nat.ble_eq_true_of_le (by omega) | exact beq_self_eq_true _ | (rw [Nat.ble_eq_true_of_le (by omega)]; rfl))) (by kernel_rfl) ?_
              refine H.se 6 (fun b => (!b)) (wr IntKind.i64 (wr IntKind.i64 (wr IntKind.i64 (100 * wr IntKind.i64 (wr IntKind.u8 (byteAt (List.getD l (0 + Int.toNat (↑i : Int)) ByteArray.empty) 0 - 48))) + wr IntKind.i64 (10 * wr IntKind.i64 (wr IntKind.u8 (byteAt (List.getD l (0 + Int.toNat (↑i : Int)) ByteArray.empty) 1 - 48)))) + wr IntKind.i64 (wr IntKind.u8 (byteAt (List.getD l (0 + Int.toNat (↑i : Int)) ByteArray.empty) 2 - 48)))) (rdC l i) (by kernel_rfl) (fun h13 => ?_) (fun h13 => ?_)
              ·
               refine H.kd 10 (fun b => b) ((↑(ByteArray.size (List.getD l (0 + Int.toNat (↑i : Int)) ByteArray.empty)) : Int) ≤ (↑(ByteArray.size (List.getD l (0 + Int.toNat (↑i : Int)) ByteArray.empty)) : Int)) (by (first | assumption | omega | exact Nat.ble_eq_true_of_le (by omega) | exact beq_self_eq_true _ | (rw [Nat.ble_eq_true_of_le (by omega)]; rfl))) (by kernel_rfl) ?_
               refine H.kd 1 (fun b => b) (4 ≤ (↑(ByteArray.size (List.getD l (0 + Int.toNat (↑i : Int)) ByteArray.empty)) : Int)) (by (first | assumption | omega | exact Nat.ble_eq_true_of_le (by omega) | exact beq_self_eq_true _ | (rw [Nat.ble_eq_true_of_le (by omega)]; rfl))) (by kernel_rfl) ?_
               refine H.kb 13 (fun b => b) (b := (Nat.ble (0 + i) i)) (d := true) (by (first | assumption | omega | exact Nat.ble_eq_true_of_le (by omega) | exact beq_self_eq_true _ | (rw [Nat.ble_eq_true_of_le (by omega)]; rfl))) (by kernel_rfl) ?_
               refine H.kb 0 (fun b => b) (b := (Nat.blt 0 16 && Nat.ble ((i + 1) * 16) 140737488355328)) (d := true) (by (first | assumption | omega | exact Nat.ble_eq_true_of_le (by omega) | exact beq_self_eq_true _ | (rw [Nat.ble_eq_true_of_le (by omega)]; rfl))) (by kernel_rfl) ?_
               refine H.sb 0 (fun b => b) (Nat.beq (i + 1) (i + 1) && Nat.beq 1 1) (by kernel_rfl) (fun h14 => ?_) (fun h14 => ?_)
               ·
                refine H.kd 5 (fun b => b) (3 < (↑(ByteArray.size (List.getD l (0 + Int.toNat (↑i : Int)) ByteArray.empty)) : Int)) (by (first | assumption | omega | exact Nat.ble_eq_true_of_le (by omega) | exact beq_self_eq_true _ | (rw [Nat.ble_eq_true_of_le (by omega)]; rfl))) (by kernel_rfl) ?_
                refine H.lf (f := pL 1) 3 (Sum.inl ([AV.sl 0 0 n cap, AV.ptr 1 0 0, AV.ptr 2 0 0, AV.b (byteAt (List.getD l (0 + Int.toNat (↑i : Int)) ByteArray.empty) 3 == 45), AV.i IntKind.i64 (wr IntKind.i64 ((↑i : Int) + 1))], 1, [AObj.ro nl n [Col.cs l], AObj.own 26 2 [AV.i IntKind.i64 0, AV.v (Value.slice none 0 0)], AObj.own 26 2 [AV.i IntKind.i64 (wr IntKind.i64 (wr IntKind.i64 (wr IntKind.i64 (100 * wr IntKind.i64 (wr IntKind.u8 (byteAt (List.getD l (0 + Int.toNat (↑i : Int)) ByteArray.empty) 0 - 48))) + wr IntKind.i64 (10 * wr IntKind.i64 (wr IntKind.u8 (byteAt (List.getD l (0 + Int.toNat (↑i : Int)) ByteArray.empty) 1 - 48)))) + wr IntKind.i64 (wr IntKind.u8 (byteAt (List.getD l (0 + Int.toNat (↑i : Int)) ByteArray.empty) 2 - 48)))), AV.sl 3 0 (i + 1) none], AObj.vec 9 (i + 1) [Col.cs (List.take i (List.drop 0 (rdT l i)) ++ [ByteArray.extract (List.getD l (0 + Int.toNat (↑i : Int)) ByteArray.empty) 4 (ByteArray.size (List.getD l (0 + Int.toNat (↑i : Int)) ByteArray.empty))])]])) (by kernel_rfl) ?_
                obtain ⟨hn1, hn2⟩ := pg_N hz hr ⟨by omega, by omega, by omega, by omega, by omega, by omega, by omega, by omega, by assumption⟩ (.inr (by assumption))
                have hlt2 : n - (i + 1) < n - i := by omega
                have eT : List.take i (List.drop 0 (rdT l i)) ++ [ByteArray.extract (List.getD l (0 + Int.toNat (↑i : Int)) ByteArray.empty) 4 (ByteArray.size (List.getD l (0 + Int.toNat (↑i : Int)) ByteArray.empty))] = rdT l (i + 1) := rdT_next hl hi h0i hz.t
                have eC : wr .i64 (wr .i64 (wr .i64 (100 * wr .i64 (wr .u8 (byteAt (List.getD l (0 + Int.toNat (↑i : Int)) ByteArray.empty) 0 - 48))) + wr .i64 (10 * wr .i64 (wr .u8 (byteAt (List.getD l (0 + Int.toNat (↑i : Int)) ByteArray.empty) 1 - 48)))) + wr .i64 (wr .u8 (byteAt (List.getD l (0 + Int.toNat (↑i : Int)) ByteArray.empty) 2 - 48))) = rdC l (i + 1) := by rw [hn2, rdC_eq]; exact congrArg lnC hX1
                have eM : (byteAt (List.getD l (0 + Int.toNat (↑i : Int)) ByteArray.empty) 3 == 45) = lnM (List.getD l (0 + Int.toNat (↑i : Int)) ByteArray.empty) := hz.m.symm
                exact ⟨_, hlt2, i + 1, by omega, hn, rfl, .inr ⟨by omega, lnM (List.getD l (0 + Int.toNat (↑i : Int)) ByteArray.empty), fun hh => by rw [hz.m]; (first | (rw [h10]; rfl) | (exfalso; omega)), by rw [← eC, hn2]; exact hn1, by (rw [eM, eC, eT, wrN (by omega)]) <;> rfl⟩⟩
               ·
                exfalso
                have hsz : (ByteArray.extract (List.getD l (0 + Int.toNat (↑i : Int)) ByteArray.empty) 4 (ByteArray.size (List.getD l (0 + Int.toNat (↑i : Int)) ByteArray.empty))).size ≤ 10000 := by rw [ByteArray.size_extract]; omega
                first | exact ble_f (by assumption) (by omega) | exact absurd (show (Nat.beq (i + 1) (i + 1) && Nat.beq 1 1) = false by assumption) (by rw [Nat.beq_refl]; decide)
              ·
               refine H.lf (f := pL 1) 6 (Sum.inr (Sum.inl (AV.tup [AV.agg [AV.i IntKind.i64 0, AV.v (Value.slice none 0 0)], AV.i IntKind.i64 1], []))) (by kernel_rfl) ?_
               first | exact hp1 (pg_E hz hr (fun h => by obtain ⟨q1, q2, q3, q4, q5, q6, q7, q8, q9⟩ := h; first | omega | exact absurd (q9.symm.trans (show _ = false by assumption)) (by decide))) | exact hp1 (pg_C hz hr ⟨by omega, by omega, by omega, by omega, by omega, by omega⟩ (by assumption)) | exact hp1 (pg_L hz hr (by assumption) (by rw [← List.length_pos_iff, List.length_drop, hl.1]; omega))
            ·
             refine H.lf (f := pL 1) 16 (Sum.inr (Sum.inl (AV.tup [AV.agg [AV.i IntKind.i64 0, AV.v (Value.slice none 0 0)], AV.i IntKind.i64 1], []))) (by kernel_rfl) ?_
             first | exact hp1 (pg_E hz hr (fun h => by obtain ⟨q1, q2, q3, q4, q5, q6, q7, q8, q9⟩ := h; first | omega | exact absurd (q9.symm.trans (show _ = false by assumption)) (by decide))) | exact hp1 (pg_C hz hr ⟨by omega, by omega, by omega, by omega, by omega, by omega⟩ (by assumption)) | exact hp1 (pg_L hz hr (by assumption) (by rw [← List.length_pos_iff, List.length_drop, hl.1]; omega))
    ·
     refine H.lf (f := pL 1) 46 (Sum.inr (Sum.inl (AV.tup [AV.agg [AV.i IntKind.i64 0, AV.v (Value.slice none 0 0)], AV.i IntKind.i64 1], []))) (by kernel_rfl) ?_
     first | exact hp1 (pg_E hz hr (fun h => by obtain ⟨q1, q2, q3, q4, q5, q6, q7, q8, q9⟩ := h; first | omega | exact absurd (q9.symm.trans (show _ = false by assumption)) (by decide))) | exact hp1 (pg_C hz hr ⟨by omega, by omega, by omega, by omega, by omega, by omega⟩ (by assumption)) | exact hp1 (pg_L hz hr (by assumption) (by rw [← List.length_pos_iff, List.length_drop, hl.1]; omega))
   ·
    exfalso
    have hsz : (ByteArray.extract (List.getD l (0 + Int.toNat (↑i : Int)) ByteArray.empty) 4 (ByteArray.size (List.getD l (0 + Int.toNat (↑i : Int)) ByteArray.empty))).size ≤ 10000 := by rw [ByteArray.size_extract]; omega
    first | exact ble_f (by assumption) (by omega) | exact absurd (show (Nat.beq (i + 1) (i + 1) && Nat.beq 1 1) = false by assumption) (by rw [Nat.beq_refl]; decide)
theorem t9 {nl : Bool} {n : Nat} {cap : Option Nat} {l : List ByteArray} {Q : An → Prop} (hq : rdE l n = 0 → Q (.tup [.agg [iv (rdC l n), .sl 1 0 n none], iv 0], [.vec 9 n [.cs (rdT l n)]])) (hp7 : rdE l n = 7 → Q (.tup [.agg [iv 0, .v (.slice none 0 0)], iv 7], [])) (hp1 : rdE l n = 1 → Q (.tup [.agg [iv 0, .v (.slice none 0 0)], iv 1], [])) (hl : okL l n) : H (ev S27 5 9 [.sl 0 0 n cap] (memL 1 [.ro nl n [.cs l]])) (fun x => Q (resV 1 x)) F0 := by
  refine fn1 (fi := fi9 false) (by kernel_rfl) (by kernel_rfl) (by kernel_rfl) rfl [0, 1, 0, 1, 1, 1, 1] 3 1 rfl (by kernel_rfl) (I9 nl n cap l) ?_ ?_
  · refine pE_Q (k := 1) ?_
    refine H.sd 2 (fun b => b) ((↑n : Int) > 16) (by kernel_rfl) (fun h1 => ?_) (fun h1 => ?_)
    · exact H.lf (f := pE 1) 6 (Sum.inl (AV.tup [AV.agg [AV.i IntKind.i64 0, AV.v (Value.slice none 0 0)], AV.i IntKind.i64 1], [])) (by kernel_rfl) (hp1 (by rw [rdE_eq, if_neg (by omega)]))
    · refine H.lf (f := pE 1) 6 (Sum.inr ([0, 1, 0, 1, 1, 1, 1], 3, [AV.sl 0 0 n cap, AV.ptr 1 0 0, AV.ptr 2 0 0, AV.b true, AV.i IntKind.i64 0], 1, [.ro nl n [.cs l], .own 26 2 [iv 0, .v (.slice none 0 0)], .own 26 2 [iv 0, .v (.slice none 0 0)]])) (by kernel_rfl) ?_
      exact ⟨rfl, rfl, n, by omega, 0, by omega, by omega, rfl, .inl ⟨rfl, by rw [rdE_eq, if_pos (by omega)], rfl⟩⟩
  · intro mm st hi
    obtain ⟨i, hi, hn16, rfl, ⟨h0, hr, rfl⟩ | ⟨h0, opn, ho, hr, rfl⟩⟩ := hi
    · by_cases hlt : (i : Int) < n
      · by_cases h3 : ByteArray.size (List.getD l (0 + Int.toNat (↑i : Int)) ByteArray.empty) = 3
        · exact s9a3 hq hp7 hp1 hl hn16 hlt h0 h3 hr
        · exact s9a4 hq hp7 hp1 hl hn16 hlt h0 h3 hr
      · refine pL_Q (k := 1) ?_
        refine H.nd 1 (fun b => b) ((↑i : Int) < (↑n : Int)) hlt (by kernel_rfl) ?_
        refine H.lf (f := pL 1) 50 (Sum.inr (Sum.inl (AV.tup [AV.agg [AV.i IntKind.i64 0, AV.v (Value.slice none 0 0)], AV.i IntKind.i64 7], []))) (by kernel_rfl) (hp7 ?_)
        have e0 : l = [] := List.length_eq_zero_iff.1 (by rw [hl.1]; omega)
        rw [← hr, e0]
        unfold rdV
        rfl
    · by_cases hlt : (i : Int) < n
      · by_cases h3 : ByteArray.size (List.getD l (0 + Int.toNat (↑i : Int)) ByteArray.empty) = 3
        · exact s9b3 hq hp7 hp1 hl hn16 hlt h0 (ho (by omega)) h3 hr
        · exact s9b4 hq hp7 hp1 hl hn16 hlt h0 (ho (by omega)) h3 hr
      · have ein : i = n := by omega
        subst ein
        rw [drop_end hl (Nat.le_refl _)] at hr
        unfold rdV at hr
        refine pL_Q (k := 1) ?_
        refine H.nd 1 (fun b => b) ((↑i : Int) < (↑i : Int)) hlt (by kernel_rfl) ?_
        refine H.sb 0 (fun b => b) (opn) (by kernel_rfl) (fun h1 => ?_) (fun h1 => ?_)
        · rw [if_pos h1] at hr
          exact H.lf (f := pL 1) 6 (Sum.inr (Sum.inl (AV.tup [AV.agg [AV.i IntKind.i64 0, AV.v (Value.slice none 0 0)], AV.i IntKind.i64 7], []))) (by kernel_rfl) (hp7 hr.symm)
        · rw [h1, if_neg (by decide)] at hr
          exact H.lf (f := pL 1) 6 (Sum.inr (Sum.inl (AV.tup [AV.agg [AV.i IntKind.i64 (rdC l i), AV.sl 1 0 i none], AV.i IntKind.i64 0], [AObj.vec 9 i [Col.cs (rdT l i)]]))) (by kernel_rfl) (hq hr.symm)
noncomputable def k9 : List AV → List AObj → T An
  | [.sl 0 r n _], [.ro _ m [.cs l]] => .br (decide (atP r m n l)) (.br (rdE l n == 0) (.ret (.tup [.agg [iv (rdC l n), .sl 1 0 n none], iv 0], [.vec 9 n [.cs (rdT l n)]])) (.br (rdE l n == 7) (.ret (.tup [.agg [iv 0, .v (.slice none 0 0)], iv 7], [])) (.ret (.tup [.agg [iv 0, .v (.slice none 0 0)], iv 1], [])))) .fail
  | _, _ => .fail
theorem v9 : Vw S27 9 k9 := by
  intro args objs Q h
  unfold k9 at h
  split at h
  · obtain ⟨h1, h2⟩ := br_ok h
    obtain ⟨rfl, rfl, hl⟩ := of_decide_eq_true h1
    refine t9 (fun e => h2.1 (beq_iff_eq.2 e)) (fun e => ?_) (fun e => ?_) hl
    · exact (h2.2 (by rw [e]; rfl)).1 (by rw [e]; rfl)
    · exact (h2.2 (by rw [e]; rfl)).2 (by rw [e]; rfl)
  · exact h.elim
end Go.Proofs.TabU
