/- Contracts of closed calls, by running the evaluator; without conditions. -/
import Derived.Test.YtiokhipgpfeoeaaFltH
import Derived.Test.YtiokhipgpfeoeaaArgDH
set_option linter.all false
set_option linter.deprecated false
set_option maxRecDepth 1000000
set_option maxHeartbeats 4000000
namespace Go.Proofs.TabH
open Go Go.Eng
/-! ## What is closed -/
noncomputable def gy26 : List AV → T AV
  | [.v (.float .f64 n)] => .ret (.i .u64 n)
  | _ => .fail
noncomputable def Sy : Sp := fun n => bif2 (Nat.beq n 16) (some (treeS g16)) (bif2 (Nat.beq n 26) (some (treeS gy26)) none)
theorem sy (N : Nat) : SOk Try.prog N Sy := by
  refine x16 N _ ?_
  refine sOk_ext (sn N) (fn := Try.f26) (e := Extern.MathFloatBits.float64bits) Try.func26 (by kernel_rfl) (by kernel_rfl) (by kernel_rfl) (by kernel_rfl) ?_
  intro args Q h φ zs hr w
  unfold gy26 at h
  split at h
  · cases hr with | cons h1 h2 => cases h2; cases h1; exact ⟨_, _, rfl, h, .i _ _⟩
  · exact h.elim
noncomputable abbrev evz (S : Sp) (d : Nat) := evFun Try.prog (ttOf tts) S (fns true).get 1048576 d
noncomputable def g29 : List AV → T AV
  | [.v (.float .f64 0), .v (.float .f64 13830554455654793216)] => .ret (fv 9223372036854775808)
  | _ => .fail
noncomputable def g19 : List AV → T AV
  | [] => .ret (.b true)
  | _ => .fail
noncomputable def g37 : List AV → T AV
  | [] => .ret (.b true)
  | _ => .fail
theorem sctrz {S R : Sp} {N : Nat} (h0 : SOk Try.prog N S) (hR : SOk Try.prog N R) {n : Nat} {g : List AV → T AV} (h : ∀ args Q, (g args).holds Q (fun _ _ => False) → args.all plain1 = true ∧ H (evz S 9 n args mem0) (fun x => PQ Q x.1) (fun _ _ => False)) (hSn : S n = none := by kernel_rfl) : SOk Try.prog N (fun f => bif2 (Nat.beq f n) (some (treeS g)) (R f)) :=
  sOk_ctr tok (fok true) hmix h0 hR h hSn
theorem s29 {N : Nat} {R : Sp} (hR : SOk Try.prog N R) : SOk Try.prog N (fun f => bif2 (Nat.beq f 29) (some (treeS g29)) (R f)) := by
  refine sctrz (sy N) hR fun args Q h => ?_
  unfold g29 at h
  split at h
  · exact ⟨rfl, H.lf (f := Prod.fst) 3000 (fv 9223372036854775808) (by kernel_rfl) ⟨rfl, h⟩⟩
  · exact h.elim
theorem s19 {N : Nat} {R : Sp} (hR : SOk Try.prog N R) : SOk Try.prog N (fun f => bif2 (Nat.beq f 19) (some (treeS g19)) (R f)) := by
  refine sctrz (sy N) hR fun args Q h => ?_
  unfold g19 at h
  split at h
  · exact ⟨rfl, H.lf (f := Prod.fst) 3000 (.b true) (by kernel_rfl) ⟨rfl, h⟩⟩
  · exact h.elim
theorem s37 {N : Nat} {R : Sp} (hR : SOk Try.prog N R) : SOk Try.prog N (fun f => bif2 (Nat.beq f 37) (some (treeS g37)) (R f)) := by
  refine sctrz (sy N) hR fun args Q h => ?_
  unfold g37 at h
  split at h
  · exact ⟨rfl, H.lf (f := Prod.fst) 3000 (.b true) (by kernel_rfl) ⟨rfl, h⟩⟩
  · exact h.elim
noncomputable def S7 : Sp := fun n => bif2 (Nat.beq n 29) (some (treeS g29)) (bif2 (Nat.beq n 19) (some (treeS g19)) (bif2 (Nat.beq n 37) (some (treeS g37)) (S8 n)))
theorem s7 (N : Nat) : SOk Try.prog N S7 := s29 (s19 (s37 (s8 N)))
end Go.Proofs.TabH
