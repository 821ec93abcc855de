/- Lemmas about the evaluator of the code. -/
import Derived.Test.YtcmnaaopgffjdaaArgPU
set_option linter.all false
set_option linter.deprecated false
set_option maxRecDepth 1000000
set_option maxHeartbeats 4000000
namespace Go.Proofs.TabU
open Go Go.Eng
theorem ba_size (s t : ByteArray) : (s ++ t).size = s.size + t.size := ByteArray.size_append
theorem ba_list (s t : ByteArray) : (s ++ t).data.toList = s.data.toList ++ t.data.toList := by rw [ByteArray.data_append]; simp
abbrev Vw (S : Sp) (n : Nat) (g : List AV → List AObj → T An) : Prop := ∀ args objs Q, (g args objs).holds Q F0 → H (ev S 5 n args (memL objs.length objs)) (fun x => Q (resV objs.length x)) F0
theorem emp : ({ data := { toList := [] } } : ByteArray) = ByteArray.empty := rfl
theorem z1 (x : UInt8) : ByteArray.size { data := #[x] } = 1 := rfl
theorem z2 (x y : UInt8) : ByteArray.size { data := #[x, y] } = 2 := rfl
def twV (acc : Nat) : List ByteArray → Nat
  | [] => acc
  | s :: t => if acc < 1048576 then twV (acc + s.size) t else acc
noncomputable def twO (l : List ByteArray) : Nat := opq (twV l.length l)
theorem twO_eq (l : List ByteArray) : twO l = twV l.length l := opq_eq _
def wsum : List ByteArray → Nat
  | [] => 0
  | s :: t => s.size + wsum t
theorem twV_le : ∀ (l : List ByteArray) (acc : Nat), acc ≤ twV acc l
  | [], acc => Nat.le_refl _
  | s :: t, acc => by
    unfold twV
    split
    · exact Nat.le_trans (Nat.le_add_right _ _) (twV_le t _)
    · exact Nat.le_refl _
theorem twV_sum : ∀ (l : List ByteArray) (acc : Nat), twV acc l ≤ 10000 → twV acc l = acc + wsum l
  | [], acc, _ => rfl
  | s :: t, acc, h => by
    have h0 : acc ≤ 10000 := Nat.le_trans (twV_le _ _) h
    unfold twV at h ⊢
    rw [if_pos (by omega)] at h ⊢
    rw [twV_sum t _ h]
    show _ = acc + (s.size + wsum t)
    omega
theorem wsum_mem : ∀ (l : List ByteArray) (j : Nat), (l.getD j ByteArray.empty).size ≤ wsum l
  | [], j => by simp
  | s :: t, 0 => by show s.size ≤ s.size + wsum t; omega
  | s :: t, j + 1 => by
    have := wsum_mem t j
    show (t.getD j ByteArray.empty).size ≤ s.size + wsum t
    omega
def okL (l : List ByteArray) (n : Nat) : Prop := l.length = n ∧ n ≤ 10000 ∧ ∀ j, (l.getD j ByteArray.empty).size ≤ 10000
noncomputable instance (l : List ByteArray) (n : Nat) : Decidable (okL l n) := Classical.propDecidable _
theorem okL_of {l : List ByteArray} {n : Nat} (h : l.length = n) (hw : twO l ≤ 10000) : okL l n := by
  rw [twO_eq] at hw
  have h1 := twV_sum l _ hw
  have h2 := twV_le l l.length
  exact ⟨h, by omega, fun j => by have := wsum_mem l j; omega⟩
def prB (s : ByteArray) (i : Nat) : Bool := (s.data.toList.drop i).all fun b => decide (32 ≤ b.toNat) && decide (b.toNat ≤ 126)
noncomputable def wdO (s : ByteArray) : Bool := opq (prB s 0 && decide (s.size ≤ 506))
theorem wdO_eq (s : ByteArray) : wdO s = (prB s 0 && decide (s.size ≤ 506)) := opq_eq _
theorem size_list (s : ByteArray) : s.size = s.data.toList.length := (Array.length_toList).symm
theorem prB_end {s : ByteArray} {i : Nat} (h : s.size ≤ i) : prB s i = true := by
  unfold prB
  rw [List.drop_eq_nil_of_le (by rw [← size_list]; exact h)]
  rfl
theorem prB_step {s : ByteArray} {i : Nat} (h : i < s.size) : prB s i = ((decide ((32 : Int) ≤ byteAt s i) && decide (byteAt s i ≤ 126)) && prB s (i + 1)) := by
  have h' : i < s.data.toList.length := by rw [← size_list]; exact h
  unfold prB
  rw [List.drop_eq_getElem_cons h', List.all_cons]
  congr 1
  have e : byteAt s i = ((s.data.toList[i]'h').toNat : Int) := by
    unfold byteAt
    rw [List.getD_eq_getElem?_getD, List.getElem?_eq_getElem h']
    rfl
  rw [e]
  congr 1
  · exact decide_eq_decide.2 (by omega)
  · exact decide_eq_decide.2 (by omega)
theorem drop_cons {l : List ByteArray} {i : Nat} (h : i < l.length) : l.drop i = l.getD i ByteArray.empty :: l.drop (i + 1) := by
  rw [List.drop_eq_getElem_cons h, List.getD_eq_getElem?_getD, List.getElem?_eq_getElem h]
  rfl
noncomputable def alV : List ByteArray → Bool
  | [] => true
  | s :: t => wdO s && alV t
end Go.Proofs.TabU
