/- Lemmas about the evaluator of the code. -/
import Derived.Test.YtcmnaaopgffjdaaRplU
set_option linter.all false
set_option linter.deprecated false
set_option maxRecDepth 1000000
set_option maxHeartbeats 4000000
namespace Go.Proofs.TabU
open Go Go.Eng
theorem wrN {i : Nat} (h : i ≤ 1000000000) : wr .i64 ((i : Int) + 1) = ((i + 1 : Nat) : Int) := by rw [wr64 (by omega) (by omega)]; rfl
theorem wrN' {i : Nat} (h : i ≤ 1000000000) : iv (wr .i64 ((i : Int) + 1)) = iv ((i + 1 : Nat) : Int) := by rw [wrN h]
theorem ble_f {a b : Nat} (h : Nat.ble a b = false) (h2 : a ≤ b) : False := by rw [Nat.ble_eq_true_of_le h2] at h; cases h
noncomputable def prO (s : ByteArray) : Bool := opq (prB s 0)
theorem prO_eq (s : ByteArray) : prO s = prB s 0 := opq_eq _
noncomputable def k38 : List AV → List AObj → T An
  | [.s s], [] => .br (Nat.ble s.size 10000) (.ret (.b (wdO s), [])) .fail
  | _, _ => .fail
noncomputable def k40 : List AV → List AObj → T An
  | [.s s, .i .u8 low], [] => .br (Nat.ble s.size 10000) (.br (low == 32) (.ret (.b (prO s), [])) .fail) .fail
  | _, _ => .fail
theorem bt_lo {s : ByteArray} {i : Nat} (h : i < s.size) (h2 : byteAt s (Int.toNat (i : Int)) < 32) : prB s i = false := by
  rw [Int.toNat_natCast] at h2
  rw [prB_step h, decide_eq_false (by omega)]; rfl
theorem bt_hi {s : ByteArray} {i : Nat} (h : i < s.size) (h2 : byteAt s (Int.toNat (i : Int)) > 126) : prB s i = false := by
  rw [Int.toNat_natCast] at h2
  rw [prB_step h, decide_eq_false (p := byteAt s i ≤ 126) (by omega), Bool.and_false]; rfl
theorem bt_ok {s : ByteArray} {i : Nat} (h : i < s.size) (h2 : ¬ byteAt s (Int.toNat (i : Int)) < 32) (h3 : ¬ byteAt s (Int.toNat (i : Int)) > 126) : prB s (i + 1) = prB s i := by
  rw [Int.toNat_natCast] at h2 h3
  rw [prB_step h, decide_eq_true (p := (32 : Int) ≤ byteAt s i) (by omega), decide_eq_true (p := byteAt s i ≤ 126) (by omega)]; rfl
theorem t38 {s : ByteArray} {Q : An → Prop} (hs : s.size ≤ 10000) (hq : Q (.b (wdO s), [])) : H (ev Sn 5 45 [.s s] (memL 0 [])) (fun x => Q (resV 0 x)) F0 := by
  refine fn1 (fi := fi45 false) (by kernel_rfl) (by kernel_rfl) (by kernel_rfl) rfl [0, 1, 0, 1] 0 0 rfl (by kernel_rfl) (fun mm st => ∃ i : Nat, i ≤ s.size ∧ mm = s.size - i ∧ prB s i = prB s 0 ∧ st = ([.s s, iv s.size, iv i], 0, [])) ?_ ?_
  · refine pE_Q (k := 0) ?_
    refine H.lf (f := pE 0) 0 (Sum.inr ([0, 1, 0, 1], 0, [.s s, iv s.size, iv 0], 0, [])) (by kernel_rfl) ?_
    exact ⟨rfl, rfl, s.size, by omega, 0, by omega, rfl, rfl, rfl⟩
  · intro mm st hi
    obtain ⟨i, hi, rfl, hp, rfl⟩ := hi
    refine pL_Q (k := 0) ?_
    refine H.sd 1 (fun b => b) ((↑i : Int) < (↑(ByteArray.size s) : Int)) (by kernel_rfl) (fun h1 => ?_) (fun h1 => ?_)
    · have hlt : i < s.size := by omega
      refine H.kd 1 (fun b => b) ((↑i : Int) < (↑(ByteArray.size s) : Int)) h1 (by kernel_rfl) ?_
      refine H.sd 1 (fun b => (b == false)) (byteAt s (Int.toNat (↑i : Int)) < 32) (by kernel_rfl) (fun h2 => ?_) (fun h2 => ?_)
      · have h4 := bt_lo hlt h2
        exact H.lf (f := pL 0) 5 (Sum.inr (Sum.inl (AV.b false, []))) (by kernel_rfl) (show Q _ from by rw [show false = wdO s by rw [wdO_eq, ← hp, h4, Bool.false_and]]; exact hq)
      · refine H.kd 3 (fun b => b) ((↑i : Int) < (↑(ByteArray.size s) : Int)) h1 (by kernel_rfl) ?_
        refine H.sd 3 (fun b => b) (byteAt s (Int.toNat (↑i : Int)) > 126) (by kernel_rfl) (fun h3 => ?_) (fun h3 => ?_)
        · have h4 := bt_hi hlt h3
          exact H.lf (f := pL 0) 0 (Sum.inr (Sum.inl (AV.b false, []))) (by kernel_rfl) (show Q _ from by rw [show false = wdO s by rw [wdO_eq, ← hp, h4, Bool.false_and]]; exact hq)
        · refine H.lf (f := pL 0) 1 (Sum.inl ([.s s, iv s.size, iv (wr .i64 ((i : Int) + 1))], 0, [])) (by kernel_rfl) ?_
          have hlt2 : s.size - (i + 1) < s.size - i := by omega
          exact ⟨_, hlt2, i + 1, by omega, rfl, (bt_ok hlt h2 h3).trans hp, by rw [wrN' (by omega)]⟩
    · exact H.lf (f := pL 0) 1 (Sum.inr (Sum.inl (AV.b (decide ((↑(ByteArray.size s) : Int) ≤ 506)), []))) (by kernel_rfl) (show Q _ from by rw [show decide ((↑(ByteArray.size s) : Int) ≤ 506) = wdO s by rw [wdO_eq, ← hp, prB_end (by omega), Bool.true_and]; exact decide_eq_decide.2 (by omega)]; exact hq)
theorem t40 {s : ByteArray} {Q : An → Prop} (hs : s.size ≤ 10000) (hq : Q (.b (prO s), [])) : H (ev Sn 5 37 [.s s, .i .u8 32] (memL 0 [])) (fun x => Q (resV 0 x)) F0 := by
  refine fn1 (fi := fi37 false) (by kernel_rfl) (by kernel_rfl) (by kernel_rfl) rfl [0, 1, 0, 1] 0 0 rfl (by kernel_rfl) (fun mm st => ∃ i : Nat, i ≤ s.size ∧ mm = s.size - i ∧ prB s i = prB s 0 ∧ st = ([.s s, .i .u8 32, iv i], 0, [])) ?_ ?_
  · refine pE_Q (k := 0) ?_
    refine H.lf (f := pE 0) 0 (Sum.inr ([0, 1, 0, 1], 0, [.s s, .i .u8 32, iv 0], 0, [])) (by kernel_rfl) ?_
    exact ⟨rfl, rfl, s.size, by omega, 0, by omega, rfl, rfl, rfl⟩
  · intro mm st hi
    obtain ⟨i, hi, rfl, hp, rfl⟩ := hi
    refine pL_Q (k := 0) ?_
    refine H.sd 1 (fun b => b) ((↑i : Int) < (↑(ByteArray.size s) : Int)) (by kernel_rfl) (fun h1 => ?_) (fun h1 => ?_)
    · have hlt : i < s.size := by omega
      refine H.kd 1 (fun b => b) ((↑i : Int) < (↑(ByteArray.size s) : Int)) h1 (by kernel_rfl) ?_
      refine H.sd 1 (fun b => (b == false)) (byteAt s (Int.toNat (↑i : Int)) < 32) (by kernel_rfl) (fun h2 => ?_) (fun h2 => ?_)
      · have h4 := bt_lo hlt h2
        exact H.lf (f := pL 0) 5 (Sum.inr (Sum.inl (AV.b false, []))) (by kernel_rfl) (show Q _ from by rw [show false = prO s by rw [prO_eq, ← hp, h4]]; exact hq)
      · refine H.kd 3 (fun b => b) ((↑i : Int) < (↑(ByteArray.size s) : Int)) h1 (by kernel_rfl) ?_
        refine H.sd 3 (fun b => b) (byteAt s (Int.toNat (↑i : Int)) > 126) (by kernel_rfl) (fun h3 => ?_) (fun h3 => ?_)
        · have h4 := bt_hi hlt h3
          exact H.lf (f := pL 0) 0 (Sum.inr (Sum.inl (AV.b false, []))) (by kernel_rfl) (show Q _ from by rw [show false = prO s by rw [prO_eq, ← hp, h4]]; exact hq)
        · refine H.lf (f := pL 0) 1 (Sum.inl ([.s s, .i .u8 32, iv (wr .i64 ((i : Int) + 1))], 0, [])) (by kernel_rfl) ?_
          have hlt2 : s.size - (i + 1) < s.size - i := by omega
          exact ⟨_, hlt2, i + 1, by omega, rfl, (bt_ok hlt h2 h3).trans hp, by rw [wrN' (by omega)]⟩
    · exact H.lf (f := pL 0) 0 (Sum.inr (Sum.inl (AV.b true, []))) (by kernel_rfl) (show Q _ from by rw [show true = prO s by rw [prO_eq, ← hp, prB_end (by omega)]]; exact hq)
theorem v38 : Vw Sn 45 k38 := by
  intro args objs Q h
  unfold k38 at h
  split at h
  · obtain ⟨h1, h⟩ := br_ok h
    exact t38 (Nat.le_of_ble_eq_true h1) h
  · exact h.elim
theorem v40 : Vw Sn 37 k40 := by
  intro args objs Q h
  unfold k40 at h
  split at h
  · obtain ⟨h1, h⟩ := br_ok h
    obtain ⟨h2, hq⟩ := br_ok h
    have h3 := eq_of_beq h2
    subst h3
    exact t40 (Nat.le_of_ble_eq_true h1) hq
  · exact h.elim
noncomputable def S40 : Sp := fun f => bif2 (Nat.beq f 37) (some (viewS k40)) (Sn f)
theorem s40 (N : NB) : SOk Try.prog N S40 := sOk_view tok (fok false) hmix (sn _) (sn _) v40
theorem v27 : Vw S40 30 k38 := by
  intro args objs Q h
  unfold k38 at h
  split at h
  · rename_i s
    obtain ⟨h1, hq⟩ := br_ok h
    refine fn0 (fi := fi30 false) (by kernel_rfl) (by kernel_rfl) (by kernel_rfl) 0 rfl ?_
    refine pE_Q (k := 0) ?_
    refine H.sd 1 (fun b => (b == true)) ((↑(ByteArray.size s) : Int) ≤ 506) (by kernel_rfl) (fun h2 => ?_) (fun h2 => ?_)
    · refine H.kb 2 (fun b => b) (b := (Nat.ble (ByteArray.size s) 10000)) (d := true) h1 (by kernel_rfl) ?_
      exact H.lf (f := pE 0) 3 (Sum.inl (AV.b (prO s), [])) (by kernel_rfl) (show Q _ from by rw [show prO s = wdO s by rw [wdO_eq, prO_eq, decide_eq_true (p := s.size ≤ 506) (by omega), Bool.and_true]]; exact hq)
    · exact H.lf (f := pE 0) 2 (Sum.inl (AV.b false, [])) (by kernel_rfl) (show Q _ from by rw [show false = wdO s by rw [wdO_eq, decide_eq_false (p := s.size ≤ 506) (by omega), Bool.and_false]]; exact hq)
  · exact h.elim
end Go.Proofs.TabU
