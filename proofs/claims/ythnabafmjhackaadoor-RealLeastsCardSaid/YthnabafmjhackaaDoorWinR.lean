/- Contracts of closed calls and of bringing a number within bounds; each names its conditions. -/
import Derived.Test.YthnabafmjhackaaDoorOfR
set_option linter.all false
set_option linter.deprecated false
set_option maxRecDepth 1000000
set_option maxHeartbeats 4000000
namespace Go.Proofs.TabR
open Go Go.Eng
/-! ## A number within a bound -/
noncomputable def g25 : List AV → T AV
  | [.i .i64 n, .i .i64 m] => .br (decide (0 < m ∧ m < 9223372036854775808)) (.ret (iv (wi n m))) .fail
  | _ => .fail
theorem c25 : Ctr Sn 25 g25 := by
  intro args Q h
  unfold g25 at h
  split at h
  · rename_i n m
    obtain ⟨h1, h⟩ := br_ok h
    obtain ⟨h1, hr⟩ := of_decide_eq_true h1
    have key : ∀ v : Int, v = wi n m → PQ Q (iv v) := fun v e => e ▸ ⟨rfl, h⟩
    refine ⟨rfl, ?_⟩
    refine H.ne 2 (fun b => b) (wr IntKind.u64 m) 0 ?_ (by kernel_rfl) ?_
    · rw [wru64 m, Int.emod_eq_of_lt (by omega) (by omega)]; omega
    refine H.lf (f := Prod.fst) 0 (iv (wr IntKind.i64 ((wr IntKind.u64 n).tmod (wr IntKind.u64 m)))) (by kernel_rfl) ?_
    refine key _ ?_
    rw [wru64 m, Int.emod_eq_of_lt (by omega) (by omega)]
    rw [wru64, Int.tmod_eq_emod_of_nonneg (Int.emod_nonneg _ (by omega))]
    have h2 := wi_nonneg (n := n) h1
    have h3 := wi_lt (n := n) h1
    exact wr64 (by unfold wi at *; omega) (by unfold wi at *; omega)
  · exact h.elim
noncomputable def Sc : Sp := fun n => bif2 (Nat.beq n 25) (some (treeS g25)) (Sb n)
theorem sc (k : Nat) : SOk Tryd.prog (nR k) Sc := sctr (sn _) (sb k) c25
end Go.Proofs.TabR
