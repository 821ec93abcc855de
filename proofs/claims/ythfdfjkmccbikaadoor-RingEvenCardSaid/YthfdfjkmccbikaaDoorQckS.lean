/- A number within a bound by its four ways, and picks of a ring by a table of closed runs; without conditions. -/
import Derived.Test.YthfdfjkmccbikaaDoorSetS
import Derived.Test.YthfdfjkmccbikaaDoorTblB
set_option linter.all false
set_option linter.deprecated false
set_option maxRecDepth 1000000
set_option maxHeartbeats 0
namespace Go.Proofs.TabS
open Go Go.Eng
/-- A number within a bound, by so many ways. -/
noncomputable def pickN (n m : Int) (f : Nat) : Nat → T AV := @Nat.rec (fun _ => Nat → T AV) (fun _ => .fail) (fun _ ih k => .br (decide (wi n m = (k : Int))) (.ret (iv k)) (ih (k + 1))) f
theorem pickN_ok {n m : Int} {Q : AV → Prop} (f : Nat) : ∀ {k : Nat}, (pickN n m f k).holds Q (fun _ _ => False) → Q (iv (wi n m)) := by
  induction f with
  | zero => intro k h; exact h.elim
  | succ f ih =>
    intro k h
    have h : (T.br (decide (wi n m = (k : Int))) (.ret (iv k)) (pickN n m f (k + 1))).holds Q (fun _ _ => False) := h
    obtain ⟨h1, h2⟩ := h
    by_cases e : wi n m = (k : Int)
    · have := h1 (decide_eq_true e)
      rw [e]; exact this
    · exact ih (h2 (decide_eq_false e))
noncomputable def g6 : List AV → T AV
  | [.i .i64 n, .i .i64 m] => .br (decide (0 < m ∧ m < 9223372036854775808)) (pickN n m 4 0) .fail
  | _ => .fail
theorem c6 : Ctr Sn 6 g6 := by
  intro args Q h
  unfold g6 at h
  split at h
  · rename_i n m
    obtain ⟨h1, h⟩ := br_ok h
    obtain ⟨h1, hr⟩ := of_decide_eq_true h1
    have h := pickN_ok _ h
    have key : ∀ v : Int, v = wi n m → PQ Q (iv v) := fun v e => by rw [e]; exact ⟨rfl, h⟩
    refine ⟨rfl, ?_⟩
    refine H.ne 2 (fun b => b) (wr IntKind.u64 m) 0 ?_ (by kernel_rfl) ?_
    · rw [wru64 m, Int.emod_eq_of_lt (by omega) (by omega)]; omega
    refine H.lf (f := Prod.fst) 0 (iv (wr IntKind.i64 ((wr IntKind.u64 n).tmod (wr IntKind.u64 m)))) (by kernel_rfl) ?_
    refine key _ ?_
    rw [wru64 m, Int.emod_eq_of_lt (by omega) (by omega)]
    rw [wru64, Int.tmod_eq_emod_of_nonneg (Int.emod_nonneg _ (by omega))]
    have h2 := wi_nonneg (n := n) h1
    have h3 := wi_lt (n := n) h1
    exact wr64 (by unfold wi at *; omega) (by unfold wi at *; omega)
  · exact h.elim
/-- A run of ring.Pick. -/
noncomputable abbrev pick (args : List AV) (M : Mem) : T (AV × Mem) := et Sr 10 9 args M
/-- Within by its ways; picks by a table, else by a run. -/
noncomputable def Sv (tab : List Ent) : Sp := fun f => bif2 (Nat.beq f 6) (some (treeS g6)) (bif2 (Nat.beq f 9) (some (tabS pick tab)) (Sr f))
theorem sv {tab : List Ent} (h : ∀ e ∈ tab, entOk pick e = true) (N : NB) : SOk Tryd.prog N (Sv tab) :=
  sctr (sn _) (sOk_tab tok (sr N) (sr N) (fok true) hmix (L := 1048576) (d := 10) (f := 9) rfl Tryd.func9 rfl (by kernel_rfl) h) c6
end Go.Proofs.TabS
