/- Contracts of closed calls and of bringing a number within bounds; each names its conditions. -/
import Derived.Test.YtiokhipgpfeoeaaSetH
set_option linter.all false
set_option linter.deprecated false
set_option maxRecDepth 1000000
set_option maxHeartbeats 4000000
namespace Go.Proofs.TabH
open Go Go.Eng
noncomputable def g40 : List AV → T AV
  | [.i .i64 n, .i .i64 m] => .br (decide (0 < m ∧ m < 9223372036854775808)) (.ret (iv (wi n m))) .fail
  | _ => .fail
theorem c40 : Ctr Sn 40 g40 := by
  intro args Q h
  unfold g40 at h
  split at h
  · rename_i n m
    obtain ⟨h1, h⟩ := br_ok h
    obtain ⟨h1, hr⟩ := of_decide_eq_true h1
    have key : ∀ v : Int, v = wi n m → PQ Q (iv v) := fun v e => e ▸ ⟨rfl, h⟩
    refine ⟨rfl, ?_⟩
    refine H.ne 2 (fun b => b) (wr IntKind.u64 m) 0 ?_ (by kernel_rfl) ?_
    · rw [wru64 m, Int.emod_eq_of_lt (by omega) (by omega)]; omega
    refine H.lf (f := Prod.fst) 0 (iv (wr IntKind.i64 ((wr IntKind.u64 n).tmod (wr IntKind.u64 m)))) (by kernel_rfl) ?_
    refine key _ ?_
    rw [wru64 m, Int.emod_eq_of_lt (by omega) (by omega)]
    rw [wru64, Int.tmod_eq_emod_of_nonneg (Int.emod_nonneg _ (by omega))]
    have h2 := wi_nonneg (n := n) h1
    have h3 := wi_lt (n := n) h1
    exact wr64 (by unfold wi at *; omega) (by unfold wi at *; omega)
  · exact h.elim
noncomputable def g15 : List AV → T AV
  | [] => .ret (.agg [fv 9221120237041090561, iv 0])
  | _ => .fail
theorem c15 : Ctr Sx 15 g15 := by
  intro args Q h
  unfold g15 at h
  split at h
  · exact ⟨rfl, H.lf (f := Prod.fst) 100 (.agg [fv 9221120237041090561, iv 0]) (by kernel_rfl) ⟨rfl, h⟩⟩
  · exact h.elim
theorem c25 : Ctr Sx 25 g15 := by
  intro args Q h
  unfold g15 at h
  split at h
  · exact ⟨rfl, H.lf (f := Prod.fst) 100 (.agg [fv 9221120237041090561, iv 0]) (by kernel_rfl) ⟨rfl, h⟩⟩
  · exact h.elim
theorem weight4 : weightO 4598175219545276416 = true := by
  rw [weightO_eq]; decide +kernel
theorem weight2 : weightO 4602678819172646912 = true := by
  rw [weightO_eq]; decide +kernel
noncomputable def S9 : Sp := fun n => bif2 (Nat.beq n 40) (some (treeS g40)) (bif2 (Nat.beq n 15) (some (treeS g15)) (bif2 (Nat.beq n 25) (some (treeS g15)) (S7 n)))
theorem s9 (N : Nat) : SOk Try.prog N S9 := sctr (sn N) (sctr (sx N) (sctr (sx N) (s7 N) c25) c15) c40
end Go.Proofs.TabH
