/- Lemmas about the evaluator of the code. -/
import Derived.Test.YtcmnaaopgffjdaaDoorRphX
set_option linter.all false
set_option linter.deprecated false
set_option maxRecDepth 1000000
set_option maxHeartbeats 4000000
namespace Go.Proofs.TabX
open Go Go.Eng
/-! ## Rows of a reply's bytes -/
theorem byteAt_left {a b : ByteArray} {i : Nat} (h : i < a.size) : byteAt (a ++ b) i = byteAt a i := by
  unfold byteAt
  rw [ba_list, List.getD_eq_getElem?_getD, List.getD_eq_getElem?_getD, List.getElem?_append_left (by rw [← size_list]; exact h)]
theorem byteAt_right {a b : ByteArray} {i : Nat} : byteAt (a ++ b) (a.size + i) = byteAt b i := by
  unfold byteAt
  rw [ba_list, List.getD_eq_getElem?_getD, List.getD_eq_getElem?_getD, List.getElem?_append_right (by rw [← size_list]; omega), ← size_list]
  congr 4; omega
noncomputable def sgB (last : Bool) : ByteArray := if last then ⟨#[32]⟩ else ⟨#[45]⟩
theorem sgB_size (b : Bool) : (sgB b).size = 1 := by cases b <;> rfl
noncomputable def rowB (c : Int) (x : ByteArray) (last : Bool) : ByteArray := itO c ++ (sgB last ++ x)
noncomputable def crlf : ByteArray := ⟨#[13, 10]⟩
theorem lineB_row (c : Int) (x : ByteArray) (last : Bool) : lineB c x last = rowB c x last ++ crlf := by
  unfold lineB rowB sgB crlf
  simp only [ByteArray.append_assoc]
noncomputable def rwV (c : Int) : List ByteArray → List ByteArray
  | [] => []
  | s :: t => rowB c s t.isEmpty :: rwV c t
theorem rwV_len (c : Int) : ∀ l : List ByteArray, (rwV c l).length = l.length
  | [] => rfl
  | s :: t => by show (rwV c t).length + 1 = t.length + 1; rw [rwV_len c t]
theorem dig3 {c : Nat} (h1 : 200 ≤ c) (h2 : c ≤ 599) : Lib.decDigits c = [UInt8.ofNat (48 + c / 100), UInt8.ofNat (48 + c / 10 % 10), UInt8.ofNat (48 + c % 10)] := by
  rw [dig_step (m := c) (by omega), dig_step (m := c / 10) (by omega), Lib.decDigits_one (by omega)]
  rw [show c / 10 / 10 = c / 100 by omega]
  rfl
theorem itO3 {c : Int} (h1 : 200 ≤ c) (h2 : c ≤ 599) : (itO c).data.toList = [UInt8.ofNat (48 + c.toNat / 100), UInt8.ofNat (48 + c.toNat / 10 % 10), UInt8.ofNat (48 + c.toNat % 10)] := by
  obtain ⟨n, rfl⟩ : ∃ n : Nat, c = (n : Int) := ⟨c.toNat, by omega⟩
  rw [itO_eq]
  show (Lib.itoa (n : Int)).toArray.toList = _
  rw [Lib.itoa_nonneg, dig3 (by omega) (by omega), Int.toNat_natCast]
theorem itO3_size {c : Int} (h1 : 200 ≤ c) (h2 : c ≤ 599) : (itO c).size = 3 := by rw [size_list, itO3 h1 h2]; rfl
theorem of8 {d : Nat} (h : d < 256) : ((UInt8.ofNat d).toNat : Int) = d := by rw [UInt8.toNat_ofNat']; omega
theorem itO3_0 {c : Int} (h1 : 200 ≤ c) (h2 : c ≤ 599) : byteAt (itO c) 0 = 48 + ((c.toNat / 100 : Nat) : Int) := by
  unfold byteAt; rw [itO3 h1 h2]; show ((UInt8.ofNat _).toNat : Int) = _; rw [of8 (by omega)]; omega
theorem itO3_1 {c : Int} (h1 : 200 ≤ c) (h2 : c ≤ 599) : byteAt (itO c) 1 = 48 + ((c.toNat / 10 % 10 : Nat) : Int) := by
  unfold byteAt; rw [itO3 h1 h2]; show ((UInt8.ofNat _).toNat : Int) = _; rw [of8 (by omega)]; omega
theorem itO3_2 {c : Int} (h1 : 200 ≤ c) (h2 : c ≤ 599) : byteAt (itO c) 2 = 48 + ((c.toNat % 10 : Nat) : Int) := by
  unfold byteAt; rw [itO3 h1 h2]; show ((UInt8.ofNat _).toNat : Int) = _; rw [of8 (by omega)]; omega
theorem sgB_0 (b : Bool) : byteAt (sgB b) 0 = if b then 32 else 45 := by cases b <;> rfl
section
variable {c : Int} {x : ByteArray} {b : Bool}
theorem row_size (h1 : 200 ≤ c) (h2 : c ≤ 599) : (rowB c x b).size = 4 + x.size := by unfold rowB; rw [ba_size, ba_size, itO3_size h1 h2, sgB_size]; omega
theorem row_at (h1 : 200 ≤ c) (h2 : c ≤ 599) {i : Nat} (hi : i < 3) : byteAt (rowB c x b) i = byteAt (itO c) i := byteAt_left (by rw [itO3_size h1 h2]; exact hi)
theorem row_3 (h1 : 200 ≤ c) (h2 : c ≤ 599) : byteAt (rowB c x b) 3 = if b then 32 else 45 := by
  have := byteAt_right (a := itO c) (b := sgB b ++ x) (i := 0)
  rw [itO3_size h1 h2] at this
  have e : byteAt (rowB c x b) 3 = byteAt (sgB b ++ x) 0 := this
  rw [e, byteAt_left (by rw [sgB_size]; omega), sgB_0]
theorem row_rest (h1 : 200 ≤ c) (h2 : c ≤ 599) : restB (rowB c x b) = x := by
  unfold restB
  have e : rowB c x b = (itO c ++ sgB b) ++ x := by unfold rowB; rw [ByteArray.append_assoc]
  have es : (itO c ++ sgB b).size = 4 := by rw [ba_size, itO3_size h1 h2, sgB_size]
  refine ByteArray.ext (Array.ext' ?_)
  rw [ByteArray.data_extract, Array.toList_extract, List.extract_eq_take_drop]
  rw [e, ba_list, ba_size, es]
  have el : (itO c ++ sgB b).data.toList.length = 4 := by rw [← size_list]; exact es
  rw [List.drop_append, List.drop_eq_nil_of_le (by rw [el]; exact Nat.le_refl _), List.nil_append, el, Nat.sub_self, List.drop_zero, List.take_of_length_le (by rw [← size_list]; omega)]
theorem row_ok (h1 : 200 ≤ c) (h2 : c ≤ 599) (hx : wdO x = true) : lnO (rowB c x b) = true := by
  rw [lnO_eq]
  refine decide_eq_true ⟨?_, ?_, ?_, ?_, .inr ⟨?_, ?_⟩⟩
  · rw [row_size h1 h2]; omega
  · rw [row_at h1 h2 (by omega), itO3_0 h1 h2]; omega
  · rw [row_at h1 h2 (by omega), itO3_1 h1 h2]; omega
  · rw [row_at h1 h2 (by omega), itO3_2 h1 h2]; omega
  · rw [row_3 h1 h2]; cases b <;> simp
  · rw [row_rest h1 h2]; exact hx
theorem row_C (h1 : 200 ≤ c) (h2 : c ≤ 599) : lnC (rowB c x b) = c := by
  rw [lnC_eq]; unfold lnCV
  rw [row_at h1 h2 (by omega), row_at h1 h2 (by omega), row_at h1 h2 (by omega), itO3_0 h1 h2, itO3_1 h1 h2, itO3_2 h1 h2]
  omega
theorem row_T (h1 : 200 ≤ c) (h2 : c ≤ 599) : lnT (rowB c x b) = x := by rw [lnT_eq, if_neg (by rw [row_size h1 h2]; omega), row_rest h1 h2]
theorem row_M (h1 : 200 ≤ c) (h2 : c ≤ 599) : lnM (rowB c x b) = !b := by rw [lnM_eq, if_neg (by rw [row_size h1 h2]; omega), row_3 h1 h2]; cases b <;> rfl
end
theorem rd_all {c : Int} (h1 : 200 ≤ c) (h2 : c ≤ 599) : ∀ (l : List ByteArray) (first opn : Bool) (code : Int), l ≠ [] → alV l = true → (first = true ∨ opn = true ∧ code = c) → rdV (rwV c l) first opn code = 0
  | [], _, _, _, h, _, _ => absurd rfl h
  | s :: t, first, opn, code, _, ha, hf => by
    unfold alV at ha
    obtain ⟨ha1, ha2⟩ := Bool.and_eq_true_iff.1 ha
    unfold rwV rdV
    rw [row_ok h1 h2 ha1, row_C h1 h2, row_M h1 h2, Bool.true_and, if_pos (by rcases hf with rfl | ⟨rfl, rfl⟩ <;> simp)]
    cases t with
    | nil => rfl
    | cons y t => exact rd_all h1 h2 (y :: t) false true c (by simp) ha2 (.inr ⟨rfl, rfl⟩)
theorem rd_cut {c : Int} (h1 : 200 ≤ c) (h2 : c ≤ 599) : ∀ (l : List ByteArray) (k : Nat) (first opn : Bool) (code : Int), k < l.length → alV l = true → opn = true → (first = true ∨ code = c) → rdV ((rwV c l).take k) first opn code = 7
  | [], k, _, _, _, hk, _, _, _ => absurd hk (Nat.not_lt_zero _)
  | s :: t, 0, first, opn, code, _, _, ho, _ => by
    rw [List.take_zero]; unfold rdV; rw [if_pos ho]
  | s :: t, k + 1, first, opn, code, hk, ha, ho, hf => by
    unfold alV at ha
    obtain ⟨ha1, ha2⟩ := Bool.and_eq_true_iff.1 ha
    unfold rwV
    rw [List.take_succ_cons]
    unfold rdV
    have hk : k < t.length := by simpa using hk
    have et : t.isEmpty = false := by cases t with | nil => cases hk | cons => rfl
    rw [row_ok h1 h2 ha1, row_C h1 h2, row_M h1 h2, Bool.true_and, if_pos (by subst ho; rcases hf with rfl | rfl <;> simp), et]
    exact rd_cut h1 h2 t k false true c hk ha2 rfl (.inr rfl)
theorem may_al {c : Int} {l : List ByteArray} {n : Nat} (h : mayO c l n = true) : alV l = true := by
  rw [mayO_eq] at h
  exact (Bool.and_eq_true_iff.1 h).2
theorem rows_ok {c : Int} {l : List ByteArray} {n : Nat} (hl : okL l n) (h : mayO c l n = true) : rdE (rwV c l) n = 0 := by
  obtain ⟨h1, h2, h3, h4⟩ := mayO_of h
  rw [rdE_eq, if_pos h4]
  exact rd_all h1 h2 l true true 0 (by intro e; rw [e] at hl; have := hl.1; simp at this; omega) (may_al h) (.inl rfl)
theorem rows_cut {c : Int} {l : List ByteArray} {n k : Nat} (hl : okL l n) (h : mayO c l n = true) (hk : k < n) : rdE ((rwV c l).take k) k = 7 := by
  obtain ⟨h1, h2, h3, h4⟩ := mayO_of h
  rw [rdE_eq, if_pos (by omega)]
  exact rd_cut h1 h2 l k true true 0 (by rw [hl.1]; exact hk) (may_al h) rfl (.inl rfl)
theorem rwV_at {c : Int} : ∀ (l : List ByteArray) (i : Nat), i < l.length → (rwV c l).getD i ByteArray.empty = rowB c (l.getD i ByteArray.empty) (l.drop (i + 1)).isEmpty
  | [], i, h => absurd h (Nat.not_lt_zero _)
  | s :: t, 0, h => rfl
  | s :: t, i + 1, h => by
    have := rwV_at (c := c) t i (by simpa using h)
    simpa [rwV] using this
theorem rows_C {c : Int} {l : List ByteArray} {n : Nat} (hl : okL l n) (h : mayO c l n = true) : rdC (rwV c l) n = c := by
  obtain ⟨h1, h2, h3, h4⟩ := mayO_of h
  rw [rdC_eq, rwV_at l (n - 1) (by rw [hl.1]; omega), row_C h1 h2]
theorem rows_T {c : Int} {l : List ByteArray} {n : Nat} (hl : okL l n) (h : mayO c l n = true) : rdT (rwV c l) n = l := by
  obtain ⟨h1, h2, h3, h4⟩ := mayO_of h
  rw [rdT_eq, List.take_of_length_le (by rw [rwV_len, hl.1]; exact Nat.le_refl _)]
  clear hl h h3 h4
  induction l with
  | nil => rfl
  | cons s t ih => show lnT (rowB c s t.isEmpty) :: List.map lnT (rwV c t) = s :: t; rw [row_T h1 h2, ih]
theorem rows_fit {c : Int} {l : List ByteArray} {n : Nat} (hl : okL l n) (h : mayO c l n = true) : okL (rwV c l) n := by
  obtain ⟨h1, h2, h3, h4⟩ := mayO_of h
  refine ⟨by rw [rwV_len, hl.1], hl.2.1, fun j => ?_⟩
  by_cases hj : j < l.length
  · rw [rwV_at l j hj, row_size h1 h2]
    have hw : (l.getD j ByteArray.empty).size ≤ 506 := by
      have ha := may_al h
      clear h hl h3 h4
      induction l generalizing j with
      | nil => exact absurd hj (Nat.not_lt_zero _)
      | cons s t ih =>
        unfold alV at ha
        obtain ⟨ha1, ha2⟩ := Bool.and_eq_true_iff.1 ha
        cases j with
        | zero =>
          rw [wdO_eq] at ha1
          exact of_decide_eq_true (Bool.and_eq_true_iff.1 ha1).2
        | succ j => exact ih j (by simpa using hj) ha2
    omega
  · rw [List.getD_eq_getElem?_getD, List.getElem?_eq_none (by rw [rwV_len]; omega)]
    exact Nat.zero_le _
end Go.Proofs.TabX
