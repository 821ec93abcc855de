/- Lemmas about the evaluator of the code. -/
import Derived.Test.YtcmnaaopgffjdaaEngMd
import Derived.Test.YtcmnaaopgffjdaaTabU
set_option linter.all false
set_option linter.deprecated false
set_option maxRecDepth 1000000
set_option maxHeartbeats 4000000
namespace Go.Proofs.TabU
open Go Go.Eng
abbrev Sp := Nat → Option (List AV → Mem → T (AV × Mem))
noncomputable abbrev ev (S : Sp) (d : Nat) := evFun Try.prog (ttOf tts) S (fns false).get 1048576 d
abbrev iv (n : Int) : AV := .i .i64 n
abbrev fv (n : Nat) : AV := .v (.float .f64 n)
noncomputable def Sn : Sp := fun _ => none
theorem sn (N : NB) : SOk Try.prog N Sn := sOk_none _ _
theorem wr64 {n : Int} (h : -9223372036854775808 ≤ n) (h' : n < 9223372036854775808) : wr .i64 n = n := by
  show wrapS 18446744073709551616 9223372036854775808 n = n
  unfold wrapS
  cases hd : decide ((9223372036854775808 : Int) ≤ n % 18446744073709551616) with
  | true => have := of_decide_eq_true hd; show n % 18446744073709551616 - 18446744073709551616 = n; omega
  | false => have := of_decide_eq_false hd; show n % 18446744073709551616 = n; omega
theorem wru64 (n : Int) : wr .u64 n = n % 18446744073709551616 := rfl
def wi (n m : Int) : Int := (n % 18446744073709551616) % m
theorem wi_nonneg {n m : Int} (h : 0 < m) : 0 ≤ wi n m := Int.emod_nonneg _ (by omega)
theorem wi_lt {n m : Int} (h : 0 < m) : wi n m < m := Int.emod_lt_of_pos _ h
def PQ (Q : AV → Prop) (v : AV) : Prop := plainA v = true ∧ Q v
/-- A contract by what its run comes to. -/
def Ctr (S : Sp) (n : Nat) (g : List AV → T AV) : Prop := ∀ args Q, (g args).holds Q (fun _ _ => False) → args.all plain1 = true ∧ H (ev S 5 n args mem0) (fun x => PQ Q x.1) (fun _ _ => False)
theorem sctr {S R : Sp} {N : NB} (h0 : SOk Try.prog N S) (hR : SOk Try.prog N R) {n : Nat} {g : List AV → T AV} (h : Ctr S n g) (hSn : S n = none := by kernel_rfl) : SOk Try.prog N (fun f => bif2 (Nat.beq f n) (some (treeS g)) (R f)) :=
  sOk_ctr tok (fok false) hmix h0 hR h hSn
end Go.Proofs.TabU
