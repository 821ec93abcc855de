/- Lemmas about the evaluator of the code. -/
import Derived.Test.YtnkglgcfemkibaaBaseC
import Derived.Test.YtnkglgcfemkibaaEngMc
set_option linter.all false
set_option linter.deprecated false
set_option maxRecDepth 1000000
set_option maxHeartbeats 4000000
namespace Go.Proofs.TabC
open Go Go.Eng
/-! ## A number within a bound, at one value; two strings -/
noncomputable def g20 (k : Nat) : List AV → T AV
  | [.i .i64 n, .i .i64 m] => .br (decide (wi n m = k ∧ 0 < m ∧ m < 9223372036854775808)) (.ret (iv k)) .fail
  | _ => .fail
theorem c20 (k : Nat) : Ctr Sn 20 (g20 k) := by
  intro args Q h
  unfold g20 at h
  split at h
  · rename_i n m
    obtain ⟨h1, h⟩ := br_ok h
    obtain ⟨hk, h1, hr⟩ := of_decide_eq_true h1
    have key : ∀ v : Int, v = wi n m → PQ Q (iv v) := fun v e => by rw [e, hk]; exact ⟨rfl, h⟩
    refine ⟨rfl, ?_⟩
    refine H.ne 2 (fun b => b) (wr IntKind.u64 m) 0 ?_ (by kernel_rfl) ?_
    · rw [wru64 m, Int.emod_eq_of_lt (by omega) (by omega)]; omega
    refine H.lf (f := Prod.fst) 0 (iv (wr IntKind.i64 ((wr IntKind.u64 n).tmod (wr IntKind.u64 m)))) (by kernel_rfl) ?_
    refine key _ ?_
    rw [wru64 m, Int.emod_eq_of_lt (by omega) (by omega)]
    rw [wru64, Int.tmod_eq_emod_of_nonneg (Int.emod_nonneg _ (by omega))]
    have h2 := wi_nonneg (n := n) h1
    have h3 := wi_lt (n := n) h1
    exact wr64 (by unfold wi at *; omega) (by unfold wi at *; omega)
  · exact h.elim
noncomputable def g113 : List AV → T AV
  | [.s a, .s b] => .ret (iv (Extern.BytealgCompare.cmp a b))
  | _ => .fail
theorem x113 (N : NB) (R : Sp) (hR : SOk Try.prog N R) : SOk Try.prog N (fun f => bif2 (Nat.beq f 113) (some (treeS g113)) (R f)) := by
  refine sOk_ext hR (fn := Try.f113) (e := Extern.BytealgCompare.compare) Try.func113 (by kernel_rfl) (by kernel_rfl) (by kernel_rfl) (by kernel_rfl) ?_
  intro args Q h φ zs hr w
  unfold g113 at h
  split at h
  · cases hr with
    | cons h1 h2 =>
      cases h2 with
      | cons h2 h3 =>
        cases h3
        cases h1
        cases h2
        exact ⟨_, _, rfl, h, .i _ _⟩
  · exact h.elim
noncomputable def Sg (k : Nat) : Sp := fun n => bif2 (Nat.beq n 20) (some (treeS (g20 k))) (bif2 (Nat.beq n 113) (some (treeS g113)) (Sn n))
theorem sg (k : Nat) (N : NB) : SOk Try.prog N (Sg k) := sctr (sn _) (x113 N _ (sn _)) (c20 k)
end Go.Proofs.TabC
