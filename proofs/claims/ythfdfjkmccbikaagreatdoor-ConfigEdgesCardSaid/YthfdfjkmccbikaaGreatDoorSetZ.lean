/- Contracts of closed calls, by running the evaluator; without conditions. -/
import Derived.Test.YthfdfjkmccbikaaGreatDoorBldZ4
import Derived.Test.YthfdfjkmccbikaaGreatDoorGlbZ
import Derived.Test.YthfdfjkmccbikaaGreatDoorEngMd
set_option linter.all false
set_option linter.deprecated false
set_option maxRecDepth 1000000
set_option maxHeartbeats 0
namespace Go.Proofs.TabZ
open Go Go.Eng
noncomputable abbrev et (S : Sp) (d : Nat) := evFun Tryz.prog (ttOf tts) S (fns true).get 1048576 d
/-- What the laws lean on. -/
noncomputable def Sb : Sp := fun f => bif2 (Nat.beq f 44) (some (treeS g44)) (bif2 (Nat.beq f 47) (some g47) (bif2 (Nat.beq f 30) (some g30) (bif2 (Nat.beq f 84) (some (treeS g84)) (Sx f))))
theorem sb (k : Nat) : SOk Tryz.prog (nZ k) Sb := s44 (s47 (s30 (s84 (sx _))))
def tailC : Code → Code
  | .seq _ b => b
  | c => c
/-- What Parse defers. -/
noncomputable def Dz : FuncId → Option DKd := fun f => bif2 (Nat.beq f 16) (some (.rcv (fi16 false) 5 2 (tailC (fi16 false).code))) none
theorem dz_ok : DOk Tryz.prog Dz := by
  intro f k h
  have h : bif2 (Nat.beq f 16) (some (.rcv (fi16 false) 5 2 (tailC (fi16 false).code))) none = some k := h
  rw [bif2_eq] at h
  split at h
  · rename_i e
    rw [Nat.eq_of_beq_eq_true e]
    injection h with h
    rw [← h]
    obtain ⟨fn, h1, h2, h3, hn, h4, h5⟩ := (fiOk16 false).ex
    have hc : CodeOk Tryz.prog (fi16 false).n (tailC (fi16 false).code) := h5.2
    exact ⟨Tryz.f16, _, _, _, _, _, _, _, _, Tryz.func16, rfl, rfl, rfl, by kernel_rfl, hc⟩
  · cases h
/-- Parse is told. -/
noncomputable def Sz : Sp := fun f => bif2 (Nat.beq f 8) (some (evFunD Tryz.prog (ttOf tts) 1048576 1048576 (et Sb 9) Dz (fi8 true))) (Sb f)
theorem sz (k : Nat) : SOk Tryz.prog (nZ k) Sz :=
  sOk_defer tok (evFun_ok tok (sb k) (fok true) hmix 9) hmix dz_ok (fiOk8 true) (sb k)
end Go.Proofs.TabZ
