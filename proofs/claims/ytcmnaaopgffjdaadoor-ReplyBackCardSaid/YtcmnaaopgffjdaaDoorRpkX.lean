/- Lemmas about the evaluator of the code. -/
import Derived.Test.YtcmnaaopgffjdaaDoorRpjX
set_option linter.all false
set_option linter.deprecated false
set_option maxRecDepth 1000000
set_option maxHeartbeats 4000000
namespace Go.Proofs.TabX
open Go Go.Eng
/-! ## Where lines end -/
theorem prB_ge {s : ByteArray} : ∀ (d i : Nat), s.size - i = d → prB s i = true → ∀ t, i ≤ t → t < s.size → 32 ≤ byteAt s t := by
  intro d
  induction d with
  | zero => intro i hd _ t h1 h2; omega
  | succ d ih =>
    intro i hd hp t h1 h2
    have hi : i < s.size := by omega
    rw [prB_step hi] at hp
    obtain ⟨ha, hb⟩ := Bool.and_eq_true_iff.1 hp
    obtain ⟨hc, _⟩ := Bool.and_eq_true_iff.1 ha
    by_cases e : t = i
    · rw [e]; exact of_decide_eq_true hc
    · exact ih (i + 1) (by omega) hb t (by omega) h2
theorem wd_ge {x : ByteArray} (h : wdO x = true) {t : Nat} (ht : t < x.size) : 32 ≤ byteAt x t := by
  rw [wdO_eq] at h
  exact prB_ge _ 0 rfl (Bool.and_eq_true_iff.1 h).1 t (Nat.zero_le _) ht
section
variable {c : Int} {x : ByteArray} {b : Bool}
theorem row_ge (h1 : 200 ≤ c) (h2 : c ≤ 599) (hx : wdO x = true) {t : Nat} (ht : t < (rowB c x b).size) : 32 ≤ byteAt (rowB c x b) t := by
  rw [row_size h1 h2] at ht
  by_cases h3 : t < 3
  · rw [row_at h1 h2 h3]
    have : t = 0 ∨ t = 1 ∨ t = 2 := by omega
    rcases this with rfl | rfl | rfl
    · rw [itO3_0 h1 h2]; omega
    · rw [itO3_1 h1 h2]; omega
    · rw [itO3_2 h1 h2]; omega
  · by_cases h4 : t = 3
    · rw [h4, row_3 h1 h2]; split <;> omega
    · have e : rowB c x b = (itO c ++ sgB b) ++ x := by unfold rowB; rw [ByteArray.append_assoc]
      have es : (itO c ++ sgB b).size = 4 := by rw [ba_size, itO3_size h1 h2, sgB_size]
      have := byteAt_right (a := itO c ++ sgB b) (b := x) (i := t - 4)
      rw [es, ← e, show 4 + (t - 4) = t by omega] at this
      rw [this]
      exact wd_ge hx (by omega)
theorem crlf_size : crlf.size = 2 := rfl
theorem crlf_0 : byteAt crlf 0 = 13 := rfl
theorem crlf_1 : byteAt crlf 1 = 10 := rfl
/-- A line's last byte alone is 10; the one ahead of it is 13. -/
theorem line_10 (h1 : 200 ≤ c) (h2 : c ≤ 599) (hx : wdO x = true) {t : Nat} (ht : t < (rowB c x b).size + 2) : byteAt (rowB c x b ++ crlf) t = 10 ↔ t = (rowB c x b).size + 1 := by
  by_cases h : t < (rowB c x b).size
  · rw [byteAt_left h]
    have := row_ge (b := b) h1 h2 hx h
    constructor <;> intro h <;> omega
  · obtain ⟨u, rfl⟩ : ∃ u, t = (rowB c x b).size + u := ⟨t - (rowB c x b).size, by omega⟩
    rw [byteAt_right]
    have : u = 0 ∨ u = 1 := by omega
    rcases this with rfl | rfl
    · rw [crlf_0]; constructor <;> intro h <;> omega
    · rw [crlf_1]; constructor <;> intro h <;> omega
theorem line_13 : byteAt (rowB c x b ++ crlf) (rowB c x b).size = 13 := by
  have := byteAt_right (a := rowB c x b) (b := crlf) (i := 0)
  rw [Nat.add_zero] at this
  rw [this, crlf_0]
end
theorem mid_at {P Q R : ByteArray} {t : Nat} (h : t < Q.size) : byteAt (P ++ (Q ++ R)) (P.size + t) = byteAt Q t := by rw [byteAt_right, byteAt_left h]
theorem mid_cut {P Q R : ByteArray} : (P ++ (Q ++ R)).extract P.size (P.size + Q.size) = Q := by
  refine ByteArray.ext (Array.ext' ?_)
  rw [ByteArray.data_extract, Array.toList_extract, List.extract_eq_take_drop, ba_list, ba_list]
  have e : P.size = P.data.toList.length := size_list P
  rw [e, List.drop_append, List.drop_eq_nil_of_le (Nat.le_refl _), List.nil_append, Nat.sub_self, List.drop_zero, Nat.add_sub_cancel_left, size_list Q, List.take_append_of_le_length (Nat.le_refl _), List.take_length]
theorem bytV_le {c : Int} (hc : (itO c).size ≤ 20) : ∀ (l : List ByteArray), (∀ j, (l.getD j ByteArray.empty).size ≤ 10000) → (bytV c l).size ≤ l.length * 10100
  | [], _ => Nat.zero_le _
  | s :: t, h => by
    unfold bytV
    rw [ba_size]
    have h1 := bytV_le hc t (fun j => h (j + 1))
    have h0 : s.size ≤ 10000 := h 0
    have h2 : (lineB c s t.isEmpty).size ≤ 10100 := by
      unfold lineB
      rw [ba_size, ba_size, ba_size]
      have : (if t.isEmpty = true then (⟨#[32]⟩ : ByteArray) else ⟨#[45]⟩).size = 1 := by split <;> rfl
      have e : (⟨#[13, 10]⟩ : ByteArray).size = 2 := rfl
      omega
    show _ ≤ (t.length + 1) * 10100
    omega
/-- How far a reply's bytes have been cut into rows. -/
def Spl (c : Int) (l : List ByteArray) (n j from_ k : Nat) : Prop :=
  ∃ P : ByteArray, P ++ bytV c (l.drop j) = bytO c l ∧ from_ = P.size ∧ j ≤ n ∧ from_ ≤ k ∧ (j < n → k < from_ + (rowB c (l.getD j ByteArray.empty) (l.drop (j + 1)).isEmpty).size + 2) ∧ (j = n → k = (bytO c l).size ∧ from_ = (bytO c l).size)
theorem spl_line {c : Int} {l : List ByteArray} {n j : Nat} (hl : okL l n) (hj : j < n) : bytV c (l.drop j) = (rowB c (l.getD j ByteArray.empty) (l.drop (j + 1)).isEmpty ++ crlf) ++ bytV c (l.drop (j + 1)) := by
  rw [drop_cons (by rw [hl.1]; exact hj)]
  conv => lhs; unfold bytV
  rw [lineB_row]
theorem spl_0 {c : Int} {l : List ByteArray} {n : Nat} (hl : okL l n) (hm : mayO c l n = true) : Spl c l n 0 0 1 := by
  obtain ⟨h1, h2, h3, h4⟩ := mayO_of hm
  refine ⟨ByteArray.empty, by rw [bytO_eq]; exact ByteArray.empty_append, rfl, by omega, by omega, fun _ => ?_, fun e => by omega⟩
  rw [row_size h1 h2]; omega
section
variable {c : Int} {l : List ByteArray} {n j f k : Nat}
theorem spl_lt (h : Spl c l n j f k) (hk : k < (bytO c l).size) : j < n := by
  obtain ⟨P, hP, hf, hj, h1, h2, h3⟩ := h
  rcases Nat.lt_or_ge j n with h | h
  · exact h
  · have := (h3 (by omega)).1; omega
theorem spl_end (h : Spl c l n j f k) (hl : okL l n) (hk : ¬ k < (bytO c l).size) : j = n ∧ f = (bytO c l).size := by
  obtain ⟨P, hP, hf, hj, h1, h2, h3⟩ := h
  by_cases e : j = n
  · exact ⟨e, (h3 e).2⟩
  · exfalso
    have := h2 (by omega)
    rw [spl_line hl (by omega)] at hP
    have := congrArg ByteArray.size hP
    rw [ba_size, ba_size, ba_size, crlf_size] at this
    omega
theorem wd_at (hl : okL l n) (hm : mayO c l n = true) (hj : j < n) : wdO (l.getD j ByteArray.empty) = true := by
  have ha := may_al hm
  have hj' : j < l.length := by rw [hl.1]; exact hj
  clear hm hl hj
  induction l generalizing j with
  | nil => exact absurd hj' (Nat.not_lt_zero _)
  | cons s t ih =>
    unfold alV at ha
    obtain ⟨ha1, ha2⟩ := Bool.and_eq_true_iff.1 ha
    cases j with
    | zero => exact ha1
    | succ j => exact ih ha2 (by simpa using hj')
/-- At a byte that ends a line. -/
theorem spl_10 (h : Spl c l n j f k) (hl : okL l n) (hm : mayO c l n = true) (hk : k < (bytO c l).size) (hb : byteAt (bytO c l) k = 10) :
    j < n ∧ f + 1 ≤ k ∧ byteAt (bytO c l) (k - 1) = 13 ∧ (bytO c l).extract f (k - 1) = rowB c (l.getD j ByteArray.empty) (l.drop (j + 1)).isEmpty ∧ Spl c l n (j + 1) (k + 1) (k + 1) := by
  have hj := spl_lt h hk
  obtain ⟨P, hP, hf, hjn, h1, h2, h3⟩ := h
  obtain ⟨c1, c2, c3, c4⟩ := mayO_of hm
  have hw := wd_at hl hm hj
  have h2 := h2 hj
  have hP0 := hP
  rw [spl_line hl hj] at hP
  generalize hr : rowB c (l.getD j ByteArray.empty) (l.drop (j + 1)).isEmpty = r at *
  have hs := row_size (b := (l.drop (j + 1)).isEmpty) (x := l.getD j ByteArray.empty) c1 c2
  rw [hr] at hs
  have ht : k - f < r.size + 2 := by omega
  have e1 : byteAt (bytO c l) k = byteAt (r ++ crlf) (k - f) := by
    have := mid_at (P := P) (Q := r ++ crlf) (R := bytV c (l.drop (j + 1))) (t := k - f) (by rw [ba_size, crlf_size]; exact ht)
    rw [hP, ← hf, show f + (k - f) = k by omega] at this
    exact this
  rw [e1, ← hr] at hb
  have hlast := (line_10 c1 c2 hw (by rw [hr]; exact ht)).1 hb
  rw [hr] at hlast
  refine ⟨hj, by omega, ?_, ?_, ?_⟩
  · have := mid_at (P := P) (Q := r ++ crlf) (R := bytV c (l.drop (j + 1))) (t := r.size) (by rw [ba_size, crlf_size]; omega)
    rw [hP, ← hf, show f + r.size = k - 1 by omega] at this
    rw [this, ← hr]
    exact line_13
  · have := mid_cut (P := P) (Q := r) (R := crlf ++ bytV c (l.drop (j + 1)))
    rw [← ByteArray.append_assoc (a := r), hP, ← hf, show f + r.size = k - 1 by omega] at this
    exact this
  · have hend : (P ++ (r ++ crlf)).size = k + 1 := by rw [ba_size, ba_size, crlf_size]; omega
    refine ⟨P ++ (r ++ crlf), by rw [ByteArray.append_assoc]; exact hP, hend.symm, by omega, Nat.le_refl _, fun hj2 => ?_, fun e => ?_⟩
    · have := row_size (b := (l.drop (j + 1 + 1)).isEmpty) (x := l.getD (j + 1) ByteArray.empty) c1 c2
      omega
    · have e2 : (bytO c l).size = k + 1 := by
        have := congrArg ByteArray.size hP
        rw [← ByteArray.append_assoc, ba_size, hend] at this
        rw [← this, e, List.drop_eq_nil_of_le (by rw [hl.1]; exact Nat.le_refl _)]
        rfl
      exact ⟨e2.symm, e2.symm⟩
/-- At another byte. -/
theorem spl_no (h : Spl c l n j f k) (hl : okL l n) (hm : mayO c l n = true) (hk : k < (bytO c l).size) (hb : byteAt (bytO c l) k ≠ 10) : Spl c l n j f (k + 1) := by
  have hj := spl_lt h hk
  obtain ⟨P, hP, hf, hjn, h1, h2, h3⟩ := h
  obtain ⟨c1, c2, c3, c4⟩ := mayO_of hm
  have hw := wd_at hl hm hj
  have h2 := h2 hj
  have hP0 := hP
  rw [spl_line hl hj] at hP
  have ht : k - f < (rowB c (l.getD j ByteArray.empty) (l.drop (j + 1)).isEmpty).size + 2 := by omega
  have e1 := mid_at (P := P) (Q := rowB c (l.getD j ByteArray.empty) (l.drop (j + 1)).isEmpty ++ crlf) (R := bytV c (l.drop (j + 1))) (t := k - f) (by rw [ba_size, crlf_size]; exact ht)
  rw [hP, ← hf, show f + (k - f) = k by omega] at e1
  rw [e1] at hb
  have := mt (line_10 (b := (l.drop (j + 1)).isEmpty) c1 c2 hw ht).2 hb
  exact ⟨P, hP0, hf, hjn, by omega, fun _ => by omega, fun e => by omega⟩
end
end Go.Proofs.TabX
