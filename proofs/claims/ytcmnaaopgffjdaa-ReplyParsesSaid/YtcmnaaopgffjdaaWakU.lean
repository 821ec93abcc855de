/- Two lines read, by running the evaluator, and the contracts that a law of replies calls; without conditions. -/
import Derived.Test.YtcmnaaopgffjdaaRphU
import Derived.Test.YtcmnaaopgffjdaaEngMd
set_option linter.all false
set_option linter.deprecated false
set_option maxRecDepth 1000000
set_option maxHeartbeats 4000000
namespace Go.Proofs.TabU
open Go Go.Eng
def tailC : Code → Code
  | .seq _ b => b
  | c => c
noncomputable def Dp : FuncId → Option DKd := fun f => bif2 (Nat.beq f 27) (some (.plain (fi27 false))) (bif2 (Nat.beq f 28) (some (.rcv (fi28 false) 5 2 (tailC (fi28 false).code))) none)
theorem dp_ok : DOk Try.prog Dp := by
  intro f k h
  have h : bif2 (Nat.beq f 27) (some (.plain (fi27 false))) (bif2 (Nat.beq f 28) (some (.rcv (fi28 false) 5 2 (tailC (fi28 false).code))) none) = some k := h
  rw [bif2_eq] at h
  split at h
  · rename_i e
    rw [Nat.eq_of_beq_eq_true e]
    injection h with h
    rw [← h]
    exact fiOk27 false
  · rw [bif2_eq] at h
    split at h
    · rename_i e
      rw [Nat.eq_of_beq_eq_true e]
      injection h with h
      rw [← h]
      obtain ⟨fn, h1, h2, h3, hn, h4, h5⟩ := (fiOk28 false).ex
      have hc : CodeOk Try.prog (fi28 false).n (tailC (fi28 false).code) := h5.2
      exact ⟨Try.f28, _, _, _, _, _, _, _, _, Try.func28, rfl, rfl, rfl, by kernel_rfl, hc⟩
    · cases h
noncomputable def Sp0 : Sp := fun f => bif2 (Nat.beq f 8) (some (evFunD Try.prog (ttOf tts) 1048576 1048576 (ev Sn 8) Dp (fi8 false))) (Sn f)
theorem sp0 (N : NB) : SOk Try.prog N Sp0 :=
  sOk_defer tok (evFun_ok tok (sn N) (fok false) hmix 8) hmix dp_ok (fiOk8 false) (sn N)
noncomputable def g18 : List AV → T AV
  | [] => .ret (.b true)
  | _ => .fail
theorem s18 {N : NB} {R : Sp} (hR : SOk Try.prog N R) : SOk Try.prog N (fun f => bif2 (Nat.beq f 14) (some (treeS g18)) (R f)) := by
  refine sOk_ctr (g := g18) tok (fok true) hmix (sp0 N) hR (L := 1048576) (d := 12) fun args Q h => ?_
  unfold g18 at h
  split at h
  · exact ⟨rfl, H.lf (f := Prod.fst) (Q := fun v => plainA v = true ∧ Q v) 20000 (AV.b true) (by kernel_rfl) ⟨rfl, h⟩⟩
  · exact h.elim
end Go.Proofs.TabU
