/- Lemmas about the evaluator of the code. -/
import Derived.Test.YtpaiioipoibahaaBaseP
import Derived.Test.YtpaiioipoibahaaEngMc
set_option linter.all false
set_option linter.deprecated false
set_option maxRecDepth 1000000
set_option maxHeartbeats 0
namespace Go.Proofs.TabP
open Go Go.Eng
def tailC : Code → Code
  | .seq _ b => b
  | c => c
/-- What Parse defers. -/
noncomputable def Dp : FuncId → Option DKd := fun f => bif2 (Nat.beq f 57) (some (.plain (fi57 false))) (bif2 (Nat.beq f 58) (some (.rcv (fi58 false) 5 2 (tailC (fi58 false).code))) none)
theorem dp_ok : DOk Try.prog Dp := by
  intro f k h
  have h : bif2 (Nat.beq f 57) (some (.plain (fi57 false))) (bif2 (Nat.beq f 58) (some (.rcv (fi58 false) 5 2 (tailC (fi58 false).code))) none) = some k := h
  rw [bif2_eq] at h
  split at h
  · rename_i e
    rw [Nat.eq_of_beq_eq_true e]
    injection h with h
    rw [← h]
    exact fiOk57 false
  · rw [bif2_eq] at h
    split at h
    · rename_i e
      rw [Nat.eq_of_beq_eq_true e]
      injection h with h
      rw [← h]
      obtain ⟨fn, h1, h2, h3, hn, h4, h5⟩ := (fiOk58 false).ex
      have hc : CodeOk Try.prog (fi58 false).n (tailC (fi58 false).code) := h5.2
      exact ⟨Try.f58, _, _, _, _, _, _, _, _, Try.func58, rfl, rfl, rfl, by kernel_rfl, hc⟩
    · cases h
noncomputable def evp (S : Sp) (d : Nat) := ev S d
/-- Parse is told. -/
noncomputable def Sp0 : Sp := fun f => bif2 (Nat.beq f 43) (some (evFunD Try.prog (ttOf tts) 1048576 1048576 (ev Sn 8) Dp (fi43 false))) (Sn f)
theorem sp0 (N : NB) : SOk Try.prog N Sp0 :=
  sOk_defer tok (evFun_ok tok (sn N) (fok false) hmix 8) hmix dp_ok (fiOk43 false) (sn N)
end Go.Proofs.TabP
