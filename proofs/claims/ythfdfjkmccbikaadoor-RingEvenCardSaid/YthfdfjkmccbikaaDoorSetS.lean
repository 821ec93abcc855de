/- Contracts of closed calls, by running the evaluator; without conditions. -/
import Derived.Test.YthfdfjkmccbikaaDoorDomK
set_option linter.all false
set_option linter.deprecated false
set_option maxRecDepth 1000000
set_option maxHeartbeats 4000000
namespace Go.Proofs.TabS
open Go Go.Eng Go.RowKit
noncomputable def g17 : List AV → T AV
  | [.i .u64 n] => .ret (.v (.float .f64 n.toNat))
  | _ => .fail
theorem x17 (N : NB) (R : Sp) (hR : SOk Tryd.prog N R) : SOk Tryd.prog N (fun f => bif2 (Nat.beq f 17) (some (treeS g17)) (R f)) := by
  refine sOk_ext hR (fn := Tryd.f17) (e := Extern.MathFloatBits.float64frombits) Tryd.func17 (by kernel_rfl) (by kernel_rfl) (by kernel_rfl) (by kernel_rfl) ?_
  intro args Q h φ zs hr w
  unfold g17 at h
  split at h
  · cases hr with
    | cons h1 h2 =>
      cases h2
      cases h1
      exact ⟨_, _, rfl, h, .v _⟩
  · exact h.elim
/-- What the laws lean on. -/
noncomputable def Sr : Sp := fun f => bif2 (Nat.beq f 25) (some (treeS g25)) (bif2 (Nat.beq f 17) (some (treeS g17)) (Sn f))
theorem sr (N : NB) : SOk Tryd.prog N Sr := s25 (x17 N _ (sn N))
noncomputable abbrev et (S : Sp) (d : Nat) := evFun Tryd.prog (ttOf tts) S (fns true).get 1048576 d
theorem rem5 {i : Int} {n : Nat} (h0 : 0 ≤ i) (h1 : i ≤ 100) (hn : n ≤ 1152921504606846976) : (wr .i64 (i + (n : Int))).tmod 5 = (i + (n : Int)) % 5 := by
  rw [wr64 (by omega) (by omega)]
  exact Int.tmod_eq_emod_of_nonneg (by omega)
theorem dt {u v m : Int} (h : u = v) (e : v = m) : decide (u = m) = true := decide_eq_true (h.trans e)
theorem df {u v m : Int} (h : u = v) (e : v ≠ m) : decide (u = m) = false := decide_eq_false fun q => e (h.symm.trans q)
end Go.Proofs.TabS
