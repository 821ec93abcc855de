/- Lemmas about the evaluator of the code. -/
import Derived.Test.YtiokhipgpfeoeaaPlnH
import Derived.Test.YtiokhipgpfeoeaaWinH
set_option linter.all false
set_option linter.deprecated false
set_option maxRecDepth 1000000
set_option maxHeartbeats 4000000
namespace Go.Proofs.TabH
open Go Go.Eng
/-- Within, told by cases of 6. -/
noncomputable def g40k : List AV → T AV
  | [.i .i64 n, .i .i64 6] => .br (decide (wi n 6 = 0)) (.ret (iv 0)) (.br (decide (wi n 6 = 1)) (.ret (iv 1)) (.br (decide (wi n 6 = 2)) (.ret (iv 2)) (.br (decide (wi n 6 = 3)) (.ret (iv 3)) (.br (decide (wi n 6 = 4)) (.ret (iv 4)) (.ret (iv 5))))))
  | [.i .i64 n, .i .i64 1000] => .ret (iv (wi n 1000))
  | _ => .fail
theorem c40k : Ctr Sn 40 g40k := by
  intro args Q h
  unfold g40k at h
  split at h
  · rename_i n
    have k0 : 0 ≤ wi n 6 := wi_nonneg (by omega)
    have k1 : wi n 6 < 6 := wi_lt (by omega)
    have go : Q (iv (wi n 6)) → [iv n, iv 6].all plain1 = true ∧ H (ev Sn 5 40 [iv n, iv 6] mem0) (fun x => PQ Q x.1) (fun _ _ => False) := fun hq =>
      c40 _ Q (show (g40 [.i .i64 n, .i .i64 6]).holds Q _ from ⟨fun _ => hq, fun e => by have := of_decide_eq_false e; omega⟩)
    refine go ?_
    obtain ⟨a0, h⟩ := h
    by_cases e : wi n 6 = 0
    · rw [e]; exact a0 (decide_eq_true e)
    obtain ⟨a0, h⟩ := h (decide_eq_false e)
    by_cases e : wi n 6 = 1
    · rw [e]; exact a0 (decide_eq_true e)
    obtain ⟨a0, h⟩ := h (decide_eq_false e)
    by_cases e : wi n 6 = 2
    · rw [e]; exact a0 (decide_eq_true e)
    obtain ⟨a0, h⟩ := h (decide_eq_false e)
    by_cases e : wi n 6 = 3
    · rw [e]; exact a0 (decide_eq_true e)
    obtain ⟨a0, h⟩ := h (decide_eq_false e)
    by_cases e : wi n 6 = 4
    · rw [e]; exact a0 (decide_eq_true e)
    rw [show wi n 6 = 5 by omega]; exact h (decide_eq_false e)
  · rename_i n
    refine c40 _ Q (show (g40 [.i .i64 n, .i .i64 1000]).holds Q _ from ⟨fun _ => h, fun e => ?_⟩)
    have := of_decide_eq_false e; omega
  · exact h.elim
noncomputable def S13 : Sp := fun n => bif2 (Nat.beq n 40) (some (treeS g40k)) (bif2 (Nat.beq n 37) (some (treeS g37)) (S8p n))
theorem s13 (N : Nat) : SOk Try.prog N S13 := sctr (sn N) (s37 (s8p N)) c40k
theorem brkV_ok {st f u : Int} {s : Nat} {c : Int} (h : 0 ≤ st ∧ st ≤ 2 ∧ 0 ≤ f ∧ f ≤ 1048576 ∧ 0 ≤ u ∧ u ≤ 2199023255552 ∧ (st = 1 ∨ u = 0)) (h2 : healthV s c = true) : brkV st f u s c = true := by
  unfold brkV; rw [decide_eq_true h, h2]; rfl
theorem brkV_o {f u : Int} {s : Nat} {c : Int} (h : 0 ≤ f ∧ f ≤ 1048576 ∧ 0 ≤ u ∧ u ≤ 2199023255552) (h2 : healthV s c = true) : brkV 1 f u s c = true :=
  brkV_ok ⟨by omega, by omega, h.1, h.2.1, h.2.2.1, h.2.2.2, .inl rfl⟩ h2
end Go.Proofs.TabH
