/- Lemmas about the evaluator of the code. -/
import Derived.Test.YtcmnaaopgffjdaaDoorRpiX
set_option linter.all false
set_option linter.deprecated false
set_option maxRecDepth 1000000
set_option maxHeartbeats 4000000
namespace Go.Proofs.TabX
open Go Go.Eng
/-! ## What the law of bytes that are read again calls -/
noncomputable def g19 : List AV → Mem → T (AV × Mem) := evFunD Tryd.prog (ttOf tts) 1048576 1048576 (ev S31 8) Dp (fi19 false)
theorem s19 {N : NB} {R : Sp} (hR : SOk Tryd.prog N R) : SOk Tryd.prog N (fun f => bif2 (Nat.beq f 19) (some g19) (R f)) :=
  sOk_defer tok (evFun_ok tok (s31 N) (fok false) hmix 8) hmix dp_ok (fiOk19 false) hR
noncomputable def Sb5 : Sp := fun f => bif2 (Nat.beq f 18) (some (treeS g18)) (bif2 (Nat.beq f 23) (some (viewS k23)) (bif2 (Nat.beq f 12) (some (viewS k12)) (bif2 (Nat.beq f 28) (some (viewS k28)) (bif2 (Nat.beq f 19) (some g19) (Sn f)))))
theorem sb5 (k : Nat) : SOk Tryd.prog (nK k) Sb5 :=
  s18 (sOk_view tok (fok false) hmix (sn _) (sOk_view tok (fok false) hmix (s12 _) (sOk_view tok (fok false) hmix (sn _) (s19 (sn _)) v28) v12) v23)
end Go.Proofs.TabX
