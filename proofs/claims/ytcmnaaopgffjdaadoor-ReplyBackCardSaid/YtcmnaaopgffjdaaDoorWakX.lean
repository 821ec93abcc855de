/- Two lines read, by running the evaluator, and the contracts that a law of replies calls; without conditions. -/
import Derived.Test.YtcmnaaopgffjdaaDoorRpfX
import Derived.Test.YtcmnaaopgffjdaaDoorEngMd
set_option linter.all false
set_option linter.deprecated false
set_option maxRecDepth 1000000
set_option maxHeartbeats 4000000
namespace Go.Proofs.TabX
open Go Go.Eng
/-! ## Two lines -/
def tailC : Code → Code
  | .seq _ b => b
  | c => c
/-- What Parse defers. -/
noncomputable def Dp : FuncId → Option DKd := fun f => bif2 (Nat.beq f 29) (some (.plain (fi29 false))) (bif2 (Nat.beq f 30) (some (.rcv (fi30 false) 5 2 (tailC (fi30 false).code))) none)
theorem dp_ok : DOk Tryd.prog Dp := by
  intro f k h
  have h : bif2 (Nat.beq f 29) (some (.plain (fi29 false))) (bif2 (Nat.beq f 30) (some (.rcv (fi30 false) 5 2 (tailC (fi30 false).code))) none) = some k := h
  rw [bif2_eq] at h
  split at h
  · rename_i e
    rw [Nat.eq_of_beq_eq_true e]
    injection h with h
    rw [← h]
    exact fiOk29 false
  · rw [bif2_eq] at h
    split at h
    · rename_i e
      rw [Nat.eq_of_beq_eq_true e]
      injection h with h
      rw [← h]
      obtain ⟨fn, h1, h2, h3, hn, h4, h5⟩ := (fiOk30 false).ex
      have hc : CodeOk Tryd.prog (fi30 false).n (tailC (fi30 false).code) := h5.2
      exact ⟨Tryd.f30, _, _, _, _, _, _, _, _, Tryd.func30, rfl, rfl, rfl, by kernel_rfl, hc⟩
    · cases h
/-- Parse is told. -/
noncomputable def Sp0 : Sp := fun f => bif2 (Nat.beq f 19) (some (evFunD Tryd.prog (ttOf tts) 1048576 1048576 (ev Sn 8) Dp (fi19 false))) (Sn f)
theorem sp0 (N : NB) : SOk Tryd.prog N Sp0 :=
  sOk_defer tok (evFun_ok tok (sn N) (fok false) hmix 8) hmix dp_ok (fiOk19 false) (sn N)
noncomputable def g18 : List AV → T AV
  | [] => .ret (.b true)
  | _ => .fail
theorem s18 {N : NB} {R : Sp} (hR : SOk Tryd.prog N R) : SOk Tryd.prog N (fun f => bif2 (Nat.beq f 18) (some (treeS g18)) (R f)) := by
  refine sOk_ctr (g := g18) tok (fok true) hmix (sp0 N) hR (L := 1048576) (d := 12) fun args Q h => ?_
  unfold g18 at h
  split at h
  · exact ⟨rfl, H.lf (f := Prod.fst) (Q := fun v => plainA v = true ∧ Q v) 20000 (AV.b true) (by kernel_rfl) ⟨rfl, h⟩⟩
  · exact h.elim
/-! ## What the law of bytes calls -/
noncomputable def Sb4 : Sp := fun f => bif2 (Nat.beq f 18) (some (treeS g18)) (bif2 (Nat.beq f 23) (some (viewS k23)) (bif2 (Nat.beq f 11) (some (viewS k11)) (bif2 (Nat.beq f 24) (some (viewS k24)) (bif2 (Nat.beq f 12) (some (viewS k12))
  (bif2 (Nat.beq f 13) (some (viewS k13)) (bif2 (Nat.beq f 14) (some (viewS k14)) (bif2 (Nat.beq f 28) (some (viewS k28)) (Sn f))))))))
theorem sb4 (k : Nat) : SOk Tryd.prog (nK k) Sb4 :=
  s18 (sOk_view tok (fok false) hmix (sn _) (sOk_view tok (fok false) hmix (sn _) (sOk_view tok (fok false) hmix (s51 _) (sOk_view tok (fok false) hmix (s12 _) (sOk_view tok (fok false) hmix (s27 _) (sOk_view tok (fok false) hmix (s21 _) (sOk_view tok (fok false) hmix (sn _) (sn _) v28) v14) v13) v12) v24) v11) v23)
theorem okL_w {l : List ByteArray} {n : Nat} (h : okW l n) (h2 : ¬ ((twO l : Nat) : Int) > 10000) : okL l n := okL_of h.1 (by omega)
theorem may_0 {c : Int} {l : List ByteArray} {n : Nat} (h : Nat.beq n 0 = true) : mayO c l n = false := by rw [Nat.eq_of_beq_eq_true h]; exact (may_n (by omega)).symm
theorem may_r {c : Int} {l : List ByteArray} {n : Nat} (h : mayO c l n = true) : 0 ≤ c ∧ c < 9223372036854775808 := by have := mayO_of h; omega
end Go.Proofs.TabX
