/- Lemmas about the evaluator of the code. -/
import Derived.Test.YtcmnaaopgffjdaaRpcU
set_option linter.all false
set_option linter.deprecated false
set_option maxRecDepth 1000000
set_option maxHeartbeats 4000000
namespace Go.Proofs.TabU
open Go Go.Eng
abbrev atP (r m n : Nat) (l : List ByteArray) : Prop := r = 0 ∧ m = n ∧ okL l n
theorem drop_end {l : List ByteArray} {i n : Nat} (hl : okL l n) (h : n ≤ i) : l.drop i = [] := List.drop_eq_nil_of_le (by rw [hl.1]; exact h)
theorem drop_at {l : List ByteArray} {i n : Nat} (hl : okL l n) (h : (i : Int) < n) : l.drop i = l.getD (0 + Int.toNat (i : Int)) ByteArray.empty :: l.drop (i + 1) := by
  have e : 0 + Int.toNat (i : Int) = i := by omega
  rw [e]
  exact drop_cons (by rw [hl.1]; omega)
noncomputable def S38 : Sp := fun f => bif2 (Nat.beq f 45) (some (viewS k38)) (Sn f)
theorem s38 (N : NB) : SOk Try.prog N S38 := sOk_view tok (fok false) hmix (sn _) (sn _) v38
def okW (l : List ByteArray) (n : Nat) : Prop := l.length = n ∧ ∀ j, (l.getD j ByteArray.empty).size ≤ 140737488351232
noncomputable instance (l : List ByteArray) (n : Nat) : Decidable (okW l n) := Classical.propDecidable _
noncomputable def k23 : List AV → List AObj → T An
  | [.sl 0 r n _], [.ro _ m [.cs l]] => .br (decide (r = 0 ∧ m = n ∧ okW l n)) (.ret (iv (twO l), [])) .fail
  | _, _ => .fail
theorem t23 {nl : Bool} {n : Nat} {cap : Option Nat} {l : List ByteArray} {Q : An → Prop} (hl : okW l n) (hq : Q (iv (twO l), [])) : H (ev Sn 5 26 [.sl 0 0 n cap] (memL 1 [.ro nl n [.cs l]])) (fun x => Q (resV 1 x)) F0 := by
  refine fn1 (fi := fi26 false) (by kernel_rfl) (by kernel_rfl) (by kernel_rfl) rfl [0, 1, 0, 1, 1] 1 1 rfl (by kernel_rfl) (fun mm st => ∃ i a : Nat, i ≤ n ∧ n ≤ a ∧ twV a (l.drop i) = twO l ∧ mm = (if n < 1048576 then n - i else 0) ∧ st = ([.sl 0 0 n cap, iv a, iv i], 1, [.ro nl n [.cs l]])) ?_ ?_
  · refine pE_Q (k := 1) ?_
    refine H.lf (f := pE 1) 0 (Sum.inr ([0, 1, 0, 1, 1], 1, [AV.sl 0 0 n cap, AV.i IntKind.i64 (↑n : Int), AV.i IntKind.i64 0], 1, [AObj.ro nl n [Col.cs l]])) (by kernel_rfl) ?_
    refine ⟨rfl, rfl, _, ?_, 0, n, by omega, by omega, by rw [twO_eq, hl.1]; rfl, rfl, rfl⟩
    split <;> omega
  · intro mm st hi
    obtain ⟨i, a, hi, ha, hp, rfl, rfl⟩ := hi
    obtain ⟨A, hA⟩ : ∃ A : Int, A = (a : Int) := ⟨_, rfl⟩
    rw [← hA]
    have hs := hl.2 (0 + Int.toNat (i : Int))
    refine pL_Q (k := 1) ?_
    refine H.sd 1 (fun b => (b == true)) ((↑i : Int) < (↑n : Int)) (by kernel_rfl) (fun h1 => ?_) (fun h1 => ?_)
    · have hd : l.drop i = l.getD (0 + Int.toNat (i : Int)) ByteArray.empty :: l.drop (i + 1) := by
        have e : 0 + Int.toNat (i : Int) = i := by omega
        rw [e]
        exact drop_cons (by rw [hl.1]; omega)
      rw [hd] at hp
      refine H.sd 3 (fun b => b) (A < 1048576) (by kernel_rfl) (fun h2 => ?_) (fun h2 => ?_)
      · refine H.kd 2 (fun b => b) ((↑i : Int) < (↑n : Int)) h1 (by kernel_rfl) ?_
        refine H.kl 0 (fun b => b) (0 + Int.toNat (↑i : Int)) (n) (by omega) (by kernel_rfl) ?_
        refine H.lf (f := pL 1) 2 (Sum.inl ([AV.sl 0 0 n cap, iv (wr .i64 (A + (↑(ByteArray.size (List.getD l (0 + Int.toNat (↑i : Int)) ByteArray.empty)) : Int))), iv (wr .i64 ((↑i : Int) + 1))], 1, [AObj.ro nl n [Col.cs l]])) (by kernel_rfl) ?_
        generalize l.getD (0 + Int.toNat (i : Int)) ByteArray.empty = x at *
        unfold twV at hp
        rw [if_pos (by omega)] at hp
        have hn : n < 1048576 := by omega
        refine ⟨_, ?_, i + 1, a + x.size, by omega, by omega, hp, rfl, ?_⟩
        · rw [if_pos hn, if_pos hn]; omega
        · rw [wrN' (by omega), wr64 (by omega) (by omega), hA]; rfl
      · unfold twV at hp
        rw [if_neg (by omega)] at hp
        exact H.lf (f := pL 1) 0 (Sum.inr (Sum.inl (AV.i IntKind.i64 A, []))) (by kernel_rfl) (show Q _ from by rw [hA, hp]; exact hq)
    · have hd : l.drop i = [] := List.drop_eq_nil_of_le (by rw [hl.1]; omega)
      rw [hd] at hp
      unfold twV at hp
      exact H.lf (f := pL 1) 3 (Sum.inr (Sum.inl (AV.i IntKind.i64 A, []))) (by kernel_rfl) (show Q _ from by rw [hA, hp]; exact hq)
theorem v23 : Vw Sn 26 k23 := by
  intro args objs Q h
  unfold k23 at h
  split at h
  · obtain ⟨h3, hq⟩ := br_ok h
    obtain ⟨rfl, rfl, hl⟩ := of_decide_eq_true h3
    exact t23 hl hq
  · exact h.elim
noncomputable def k11 : List AV → List AObj → T An
  | [.sl 0 r n _], [.ro _ m [.cs l]] => .br (decide (atP r m n l)) (.br (Nat.beq n 0) (.ret (.v (.slice none 0 0), [])) (.ret (.sl 1 0 n none, [.vec 9 n [.cs l]]))) .fail
  | _, _ => .fail
theorem take_at {l : List ByteArray} {i n : Nat} (hl : okL l n) (h : (i : Int) < n) : l.take i ++ [l.getD (0 + Int.toNat (i : Int)) ByteArray.empty] = l.take (i + 1) := by
  have e : 0 + Int.toNat (i : Int) = i := by omega
  have hlt : i < l.length := by rw [hl.1]; omega
  rw [e, List.getD_eq_getElem?_getD, List.getElem?_eq_getElem hlt]
  simp
theorem t11 {nl : Bool} {n : Nat} {cap : Option Nat} {l : List ByteArray} {Q : An → Prop} (hl : okL l n) (hq0 : n = 0 → Q (.v (.slice none 0 0), [])) (hq1 : n ≠ 0 → Q (.sl 1 0 n none, [.vec 9 n [.cs l]])) : H (ev Sn 5 7 [.sl 0 0 n cap] (memL 1 [.ro nl n [.cs l]])) (fun x => Q (resV 1 x)) F0 := by
  have h0 := hl.2.1
  refine fn1 (fi := fi7 false) (by kernel_rfl) (by kernel_rfl) (by kernel_rfl) rfl [0, 1, 0, 1, 1] 1 1 rfl (by kernel_rfl) (fun mm st => ∃ i : Nat, i ≤ n ∧ mm = n - i ∧
    ((i = 0 ∧ st = ([.sl 0 0 n cap, .v (.slice none 0 0), iv 0], 1, [.ro nl n [.cs l]])) ∨ (0 < i ∧ st = ([.sl 0 0 n cap, .sl 1 0 i none, iv i], 1, [.ro nl n [.cs l], .vec 9 i [.cs (l.take i)]])))) ?_ ?_
  · refine pE_Q (k := 1) ?_
    refine H.lf (f := pE 1) 0 (Sum.inr ([0, 1, 0, 1, 1], 1, [AV.sl 0 0 n cap, AV.v (Value.slice none 0 0), AV.i IntKind.i64 0], 1, [AObj.ro nl n [Col.cs l]])) (by kernel_rfl) ?_
    exact ⟨rfl, rfl, n, by omega, 0, by omega, rfl, .inl ⟨rfl, rfl⟩⟩
  · intro mm st hi
    obtain ⟨i, hi, rfl, ⟨rfl, rfl⟩ | ⟨hp, rfl⟩⟩ := hi
    · refine pL_Q (k := 1) ?_
      refine H.sd 1 (fun b => b) (((0 : Nat) : Int) < (↑n : Int)) (by kernel_rfl) (fun h1 => ?_) (fun h1 => ?_)
      · refine H.kd 2 (fun b => b) (((0 : Nat) : Int) < (↑n : Int)) h1 (by kernel_rfl) ?_
        refine H.kl 0 (fun b => b) (0 + Int.toNat ((0 : Nat) : Int)) (n) (by omega) (by kernel_rfl) ?_
        refine H.lf (f := pL 1) 10 (Sum.inl ([AV.sl 0 0 n cap, AV.sl 1 0 1 none, iv (wr .i64 (((0 : Nat) : Int) + 1))], 1, [AObj.ro nl n [Col.cs l], AObj.vec 9 1 [Col.cs [List.getD l (0 + Int.toNat ((0 : Nat) : Int)) ByteArray.empty]]])) (by kernel_rfl) ?_
        have hlt2 : n - 1 < n - 0 := by omega
        refine ⟨_, hlt2, 1, by omega, rfl, .inr ⟨by omega, ?_⟩⟩
        have := take_at hl h1
        rw [List.take_zero, List.nil_append] at this
        rw [this]; rfl
      · exact H.lf (f := pL 1) 0 (Sum.inr (Sum.inl (AV.v (Value.slice none 0 0), []))) (by kernel_rfl) (hq0 (by omega))
    · refine pL_Q (k := 1) ?_
      refine H.sd 1 (fun b => b) ((↑i : Int) < (↑n : Int)) (by kernel_rfl) (fun h1 => ?_) (fun h1 => ?_)
      · refine H.kd 2 (fun b => b) ((↑i : Int) < (↑n : Int)) h1 (by kernel_rfl) ?_
        refine H.kl 0 (fun b => b) (0 + Int.toNat (↑i : Int)) (n) (by omega) (by kernel_rfl) ?_
        refine H.kb 9 (fun b => b) (b := Nat.ble (0 + i) i) (d := true) (Nat.ble_eq_true_of_le (by omega)) (by kernel_rfl) ?_
        refine H.kb 0 (fun b => b) (b := Nat.blt 0 16 && Nat.ble ((i + 1) * 16) 140737488355328) (d := true) (by rw [Nat.ble_eq_true_of_le (by omega)]; rfl) (by kernel_rfl) ?_
        refine H.kb 0 (fun b => b) (b := Nat.beq (i + 1) (i + 1) && Nat.beq 1 1) (d := true) (by rw [Nat.beq_refl]; rfl) (by kernel_rfl) ?_
        refine H.lf (f := pL 1) 2 (Sum.inl ([AV.sl 0 0 n cap, AV.sl 1 0 (i + 1) none, iv (wr .i64 ((↑i : Int) + 1))], 1, [AObj.ro nl n [Col.cs l], AObj.vec 9 (i + 1) [Col.cs (List.take i (List.drop 0 (l.take i)) ++ [List.getD l (0 + Int.toNat (↑i : Int)) ByteArray.empty])]])) (by kernel_rfl) ?_
        have hlt2 : n - (i + 1) < n - i := by omega
        refine ⟨_, hlt2, i + 1, by omega, rfl, .inr ⟨by omega, ?_⟩⟩
        rw [List.drop_zero, List.take_take, Nat.min_self, take_at hl h1, wrN' (by omega)]
      · refine H.lf (f := pL 1) 1 (Sum.inr (Sum.inl (AV.sl 1 0 i none, [AObj.vec 9 i [Col.cs (l.take i)]]))) (by kernel_rfl) ?_
        have e : i = n := by omega
        subst e
        show Q _
        rw [List.take_of_length_le (by rw [hl.1]; exact Nat.le_refl _)]
        exact hq1 (by omega)
theorem v11 : Vw Sn 7 k11 := by
  intro args objs Q h
  unfold k11 at h
  split at h
  · obtain ⟨h3, hq⟩ := br_ok h
    obtain ⟨rfl, rfl, hl⟩ := of_decide_eq_true h3
    refine t11 hl (fun e => ?_) (fun e => ?_)
    · exact hq.1 (by rw [e]; rfl)
    · refine hq.2 ?_
      cases hh : Nat.beq _ 0 with
      | false => rfl
      | true => exact absurd (Nat.eq_of_beq_eq_true hh) e
  · exact h.elim
noncomputable def S27 : Sp := fun f => bif2 (Nat.beq f 30) (some (viewS k38)) (Sn f)
theorem s27 (N : NB) : SOk Try.prog N S27 := sOk_view tok (fok false) hmix (s40 _) (sn _) v27
end Go.Proofs.TabU
