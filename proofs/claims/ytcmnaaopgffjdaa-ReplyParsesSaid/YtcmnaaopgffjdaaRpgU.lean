/- Lemmas about the evaluator of the code. -/
import Derived.Test.YtcmnaaopgffjdaaRpeU
set_option linter.all false
set_option linter.deprecated false
set_option maxRecDepth 1000000
set_option maxHeartbeats 4000000
namespace Go.Proofs.TabU
open Go Go.Eng
noncomputable def restB (s : ByteArray) : ByteArray := s.extract 4 s.size
def lnP (s : ByteArray) : Prop := 3 ≤ s.size ∧ (50 ≤ byteAt s 0 ∧ byteAt s 0 ≤ 53) ∧ (48 ≤ byteAt s 1 ∧ byteAt s 1 ≤ 57) ∧ (48 ≤ byteAt s 2 ∧ byteAt s 2 ≤ 57) ∧ (s.size = 3 ∨ (byteAt s 3 = 32 ∨ byteAt s 3 = 45) ∧ wdO (restB s) = true)
noncomputable instance (s : ByteArray) : Decidable (lnP s) := Classical.propDecidable _
noncomputable def lnO (s : ByteArray) : Bool := opq (decide (lnP s))
theorem lnO_eq (s : ByteArray) : lnO s = decide (lnP s) := opq_eq _
def lnCV (s : ByteArray) : Int := 100 * (byteAt s 0 - 48) + 10 * (byteAt s 1 - 48) + (byteAt s 2 - 48)
noncomputable def lnC (s : ByteArray) : Int := opq (lnCV s)
theorem lnC_eq (s : ByteArray) : lnC s = lnCV s := opq_eq _
noncomputable def lnT (s : ByteArray) : ByteArray := opq (if s.size = 3 then ByteArray.empty else restB s)
theorem lnT_eq (s : ByteArray) : lnT s = if s.size = 3 then ByteArray.empty else restB s := opq_eq _
noncomputable def lnM (s : ByteArray) : Bool := opq (if s.size = 3 then false else byteAt s 3 == 45)
theorem lnM_eq (s : ByteArray) : lnM s = if s.size = 3 then false else byteAt s 3 == 45 := opq_eq _
abbrev wrV (e : Int) : AV := .v (.iface 70 (.agg #[.int .i64 e]))
noncomputable def k42 : List AV → List AObj → T An
  | [.s s], [] => .br (Nat.ble s.size 10000) (.br (lnO s) (.ret (.tup [iv (lnC s), .s (lnT s), .b (lnM s)], [])) (.pan (wrV 1) mem0)) .fail
  | _, _ => .fail
theorem cod_eq {a b c : Int} (ha : 50 ≤ a ∧ a ≤ 53) (hb : 48 ≤ b ∧ b ≤ 57) (hc : 48 ≤ c ∧ c ≤ 57) :
    wr .i64 (wr .i64 (10 * wr .i64 (wr .i64 (10 * wr .i64 (0 + wr .i64 (wr .u8 (a - 48)))) + wr .i64 (wr .u8 (b - 48)))) + wr .i64 (wr .u8 (c - 48))) = 100 * (a - 48) + 10 * (b - 48) + (c - 48) := by
  have e : ∀ x : Int, 48 ≤ x ∧ x ≤ 57 → wr .u8 (x - 48) = x - 48 := fun x hx => by show (x - 48) % 256 = _; omega
  rw [e a (by omega), e b hb, e c hc, wr64 (n := a - 48) (by omega) (by omega), wr64 (n := b - 48) (by omega) (by omega), wr64 (n := c - 48) (by omega) (by omega), wr64 (n := 0 + (a - 48)) (by omega) (by omega),
    wr64 (n := 10 * (0 + (a - 48))) (by omega) (by omega), wr64 (n := 10 * (0 + (a - 48)) + (b - 48)) (by omega) (by omega), wr64 (n := 10 * (10 * (0 + (a - 48)) + (b - 48))) (by omega) (by omega), wr64 (by omega) (by omega)]
  omega
theorem rest_size {s : ByteArray} : (restB s).size ≤ s.size := by unfold restB; rw [ByteArray.size_extract]; omega
theorem t42 {s : ByteArray} {Q : An → Prop} {Qp : AV → Prop} (hs : s.size ≤ 10000) (hq : lnO s = true → Q (.tup [iv (lnC s), .s (lnT s), .b (lnM s)], [])) (hp : lnO s = false → Qp (wrV 1)) :
    H (ev S38 5 36 [.s s] (memL 0 [])) (fun x => Q (resV 0 x)) (fun x _ => plain0 x = true ∧ Qp x) := by
  have no : ¬ lnP s → lnO s = false := fun h => by rw [lnO_eq]; exact decide_eq_false h
  have rs := @rest_size s
  refine H.sd 2 (fun b => (b == true)) ((↑(ByteArray.size s) : Int) ≥ 3) (by kernel_rfl) (fun h1 => ?_) (fun h1 => ?_)
  case refine_2 => exact H.pn 200 (wrV 1) (by kernel_rfl) fun _ => ⟨rfl, hp (no fun h => by have := h.1; omega)⟩
  refine H.kd 2 (fun b => b) (0 < (↑(ByteArray.size s) : Int)) (by omega) (by kernel_rfl) ?_
  refine H.sd 3 (fun b => (b == true)) (byteAt s 0 ≥ 50) (by kernel_rfl) (fun h2 => ?_) (fun h2 => ?_)
  case refine_2 => exact H.pn 200 (wrV 1) (by kernel_rfl) fun _ => ⟨rfl, hp (no fun h => by have := h.2.1; omega)⟩
  refine H.kd 2 (fun b => b) (0 < (↑(ByteArray.size s) : Int)) (by omega) (by kernel_rfl) ?_
  refine H.sd 4 (fun b => (!b)) (byteAt s 0 ≤ 53) (by kernel_rfl) (fun h3 => ?_) (fun h3 => ?_)
  case refine_2 => exact H.pn 200 (wrV 1) (by kernel_rfl) fun _ => ⟨rfl, hp (no fun h => by have := h.2.1; omega)⟩
  refine H.kd 3 (fun b => b) (0 < (↑(ByteArray.size s) : Int)) (by omega) (by kernel_rfl) ?_
  refine H.kd 1 (fun b => (b == true)) (byteAt s 0 ≥ 48) (by omega) (by kernel_rfl) ?_
  refine H.kd 3 (fun b => b) (0 < (↑(ByteArray.size s) : Int)) (by omega) (by kernel_rfl) ?_
  refine H.kd 4 (fun b => (!b)) (byteAt s 0 ≤ 57) (by omega) (by kernel_rfl) ?_
  refine H.kd 2 (fun b => b) (0 < (↑(ByteArray.size s) : Int)) (by omega) (by kernel_rfl) ?_
  refine H.kd 6 (fun b => b) ((1 : Int) < (↑(ByteArray.size s) : Int)) (by omega) (by kernel_rfl) ?_
  refine H.sd 1 (fun b => (b == true)) (byteAt s 1 ≥ (48 : Int)) (by kernel_rfl) (fun h5 => ?_) (fun h5 => ?_)
  case refine_2 => exact H.pn 200 (wrV 1) (by kernel_rfl) fun _ => ⟨rfl, hp (no fun h => by have := h.2.2.1; omega)⟩
  refine H.kd 3 (fun b => b) ((1 : Int) < (↑(ByteArray.size s) : Int)) (by omega) (by kernel_rfl) ?_
  refine H.sd 4 (fun b => (!b)) (byteAt s 1 ≤ (57 : Int)) (by kernel_rfl) (fun h6 => ?_) (fun h6 => ?_)
  case refine_2 => exact H.pn 200 (wrV 1) (by kernel_rfl) fun _ => ⟨rfl, hp (no fun h => by have := h.2.2.1; omega)⟩
  refine H.kd 2 (fun b => b) ((1 : Int) < (↑(ByteArray.size s) : Int)) (by omega) (by kernel_rfl) ?_
  refine H.kd 6 (fun b => b) ((2 : Int) < (↑(ByteArray.size s) : Int)) (by omega) (by kernel_rfl) ?_
  refine H.sd 1 (fun b => (b == true)) (byteAt s 2 ≥ (48 : Int)) (by kernel_rfl) (fun h7 => ?_) (fun h7 => ?_)
  case refine_2 => exact H.pn 200 (wrV 1) (by kernel_rfl) fun _ => ⟨rfl, hp (no fun h => by have := h.2.2.2.1; omega)⟩
  refine H.kd 3 (fun b => b) ((2 : Int) < (↑(ByteArray.size s) : Int)) (by omega) (by kernel_rfl) ?_
  refine H.sd 4 (fun b => (!b)) (byteAt s 2 ≤ (57 : Int)) (by kernel_rfl) (fun h8 => ?_) (fun h8 => ?_)
  case refine_2 => exact H.pn 200 (wrV 1) (by kernel_rfl) fun _ => ⟨rfl, hp (no fun h => by have := h.2.2.2.1; omega)⟩
  refine H.kd 2 (fun b => b) ((2 : Int) < (↑(ByteArray.size s) : Int)) (by omega) (by kernel_rfl) ?_
  have hcod := cod_eq (a := byteAt s 0) (b := byteAt s 1) (c := byteAt s 2) (by omega) (by omega) (by omega)
  have hC : iv (lnC s) = iv (wr .i64 (wr .i64 (10 * wr .i64 (wr .i64 (10 * wr .i64 (0 + wr .i64 (wr .u8 (byteAt s 0 - 48)))) + wr .i64 (wr .u8 (byteAt s 1 - 48)))) + wr .i64 (wr .u8 (byteAt s 2 - 48)))) := by rw [lnC_eq, hcod]; rfl
  refine H.se 6 (fun b => b) ((↑(ByteArray.size s) : Int)) (3) (by kernel_rfl) (fun h9 => ?_) (fun h9 => ?_)
  · have yes : lnO s = true := by rw [lnO_eq]; exact decide_eq_true ⟨by omega, by omega, by omega, by omega, .inl (by omega)⟩
    have hq := hq yes
    have e3 : s.size = 3 := by omega
    rw [hC, lnT_eq, if_pos e3, lnM_eq, if_pos e3] at hq
    exact H.lf (f := resV 0) 0 ((AV.tup [iv (wr .i64 (wr .i64 (10 * wr .i64 (wr .i64 (10 * wr .i64 (0 + wr .i64 (wr .u8 (byteAt s 0 - 48)))) + wr .i64 (wr .u8 (byteAt s 1 - 48)))) + wr .i64 (wr .u8 (byteAt s 2 - 48)))), AV.s ByteArray.empty, AV.b false], [])) (by kernel_rfl) hq
  · have e3 : s.size ≠ 3 := by omega
    have fin : (byteAt s 3 = 32 ∨ byteAt s 3 = 45) → wdO (restB s) = true → Q (AV.tup [iv (wr .i64 (wr .i64 (10 * wr .i64 (wr .i64 (10 * wr .i64 (0 + wr .i64 (wr .u8 (byteAt s 0 - 48)))) + wr .i64 (wr .u8 (byteAt s 1 - 48)))) + wr .i64 (wr .u8 (byteAt s 2 - 48)))), .s (restB s), .b (byteAt s 3 == 45)], []) := by
      intro h10 h12
      have yes : lnO s = true := by rw [lnO_eq]; exact decide_eq_true ⟨by omega, by omega, by omega, by omega, .inr ⟨h10, h12⟩⟩
      have hq := hq yes
      rw [hC, lnT_eq, if_neg e3, lnM_eq, if_neg e3] at hq
      exact hq
    have bad : wdO (restB s) = false → Qp (wrV 1) := fun h12 => hp (no fun h => by
      rcases h.2.2.2.2 with h | h
      · exact e3 h
      · rw [h12] at h; cases h.2)
    refine H.kd 1 (fun b => b) (3 < (↑(ByteArray.size s) : Int)) (by omega) (by kernel_rfl) ?_
    refine H.se 1 (fun b => (b == false)) (byteAt s 3) (32) (by kernel_rfl) (fun h10 => ?_) (fun h10 => ?_)
    · refine H.kd 6 (fun b => b) ((↑(ByteArray.size s) : Int) ≤ (↑(ByteArray.size s) : Int)) (by omega) (by kernel_rfl) ?_
      refine H.kd 1 (fun b => b) (4 ≤ (↑(ByteArray.size s) : Int)) (by omega) (by kernel_rfl) ?_
      refine H.kb 1 (fun b => b) (b := Nat.ble (ByteArray.size (restB s)) 10000) (d := true) (Nat.ble_eq_true_of_le (by omega)) (by kernel_rfl) ?_
      refine H.sb 2 (fun b => (!b)) (wdO (restB s)) (by kernel_rfl) (fun h12 => ?_) (fun h12 => ?_)
      · refine H.kd 4 (fun b => b) ((↑(ByteArray.size s) : Int) ≤ (↑(ByteArray.size s) : Int)) (by omega) (by kernel_rfl) ?_
        refine H.kd 1 (fun b => b) (4 ≤ (↑(ByteArray.size s) : Int)) (by omega) (by kernel_rfl) ?_
        refine H.kd 3 (fun b => b) (3 < (↑(ByteArray.size s) : Int)) (by omega) (by kernel_rfl) ?_
        exact H.lf (f := resV 0) 7 (AV.tup [iv (wr .i64 (wr .i64 (10 * wr .i64 (wr .i64 (10 * wr .i64 (0 + wr .i64 (wr .u8 (byteAt s 0 - 48)))) + wr .i64 (wr .u8 (byteAt s 1 - 48)))) + wr .i64 (wr .u8 (byteAt s 2 - 48)))), .s (restB s), .b (byteAt s 3 == 45)], []) (by kernel_rfl) (fin (.inl h10) h12)
      · exact H.pn 200 (wrV 1) (by kernel_rfl) fun _ => ⟨rfl, bad h12⟩
    · refine H.kd 2 (fun b => b) (3 < (↑(ByteArray.size s) : Int)) (by omega) (by kernel_rfl) ?_
      refine H.se 4 (fun b => (!b)) (byteAt s 3) (45) (by kernel_rfl) (fun h11 => ?_) (fun h11 => ?_)
      · refine H.kd 1 (fun b => b) ((↑(ByteArray.size s) : Int) ≤ (↑(ByteArray.size s) : Int)) (by omega) (by kernel_rfl) ?_
        refine H.kd 1 (fun b => b) (4 ≤ (↑(ByteArray.size s) : Int)) (by omega) (by kernel_rfl) ?_
        refine H.kb 1 (fun b => b) (b := Nat.ble (ByteArray.size (restB s)) 10000) (d := true) (Nat.ble_eq_true_of_le (by omega)) (by kernel_rfl) ?_
        refine H.sb 2 (fun b => (!b)) (wdO (restB s)) (by kernel_rfl) (fun h12 => ?_) (fun h12 => ?_)
        · refine H.kd 4 (fun b => b) ((↑(ByteArray.size s) : Int) ≤ (↑(ByteArray.size s) : Int)) (by omega) (by kernel_rfl) ?_
          refine H.kd 1 (fun b => b) (4 ≤ (↑(ByteArray.size s) : Int)) (by omega) (by kernel_rfl) ?_
          refine H.kd 3 (fun b => b) (3 < (↑(ByteArray.size s) : Int)) (by omega) (by kernel_rfl) ?_
          exact H.lf (f := resV 0) 7 (AV.tup [iv (wr .i64 (wr .i64 (10 * wr .i64 (wr .i64 (10 * wr .i64 (0 + wr .i64 (wr .u8 (byteAt s 0 - 48)))) + wr .i64 (wr .u8 (byteAt s 1 - 48)))) + wr .i64 (wr .u8 (byteAt s 2 - 48)))), .s (restB s), .b (byteAt s 3 == 45)], []) (by kernel_rfl) (fin (.inr h11) h12)
        · exact H.pn 200 (wrV 1) (by kernel_rfl) fun _ => ⟨rfl, bad h12⟩
      · exact H.pn 200 (wrV 1) (by kernel_rfl) fun _ => ⟨rfl, hp (no fun h => by
          rcases h.2.2.2.2 with h | h
          · exact e3 h
          · rcases h.1 with h | h
            · exact h10 h
            · exact h11 h)⟩
abbrev VwP (S : Sp) (n : Nat) (g : List AV → List AObj → T An) : Prop := ∀ args objs Q (Qp : AV → Prop), (g args objs).holds Q (fun x _ => Qp x) → H (ev S 5 n args (memL objs.length objs)) (fun x => Q (resV objs.length x)) (fun x _ => plain0 x = true ∧ Qp x)
theorem v42 : VwP S38 36 k42 := by
  intro args objs Q Qp h
  unfold k42 at h
  split at h
  · obtain ⟨h1, h2⟩ := br_ok h
    exact t42 (Nat.le_of_ble_eq_true h1) (fun e => h2.1 e) (fun e => h2.2 e)
  · exact h.elim
noncomputable def S42 : Sp := fun f => bif2 (Nat.beq f 36) (some (viewP k42)) (Sn f)
theorem s42 (N : NB) : SOk Try.prog N S42 := sOk_viewP tok (fok false) hmix (s38 _) (sn _) v42
end Go.Proofs.TabU
