/- Contracts of closed calls, by running the evaluator; without conditions. -/
import Derived.Test.YthfdfjkmccbikaaGreatDoorErrY2
import Derived.Test.YthfdfjkmccbikaaGreatDoorDomY
import Derived.Test.YthfdfjkmccbikaaGreatDoorEngMd
import Derived.Test.YthfdfjkmccbikaaGreatDoorBldZ4
set_option linter.all false
set_option linter.deprecated false
set_option maxRecDepth 1000000
set_option maxHeartbeats 4000000
namespace Go.Proofs.TabZ
open Go Go.Eng Go.RowKit
/-- An error of the inner package as one of the outer package's: some error. -/
noncomputable def g78 : List AV → T AV
  | [.s f, .s s, .i .i64 b, .i .i64 c, .v (.iface 129 (.int .i64 k))] => .br (Nat.ble s.size 1000000) (.br (k == 2) (.ret (.ifc 132 .top)) (.br (k == 1) (.ret (.ifc 132 .top)) .fail)) .fail
  | _ => .fail
theorem s78 {te tr : TypeId} {pe pr : Value} {k : Nat} {R : Sp} (hR : SOk Tryz.prog (nY (.iface te pe) (.iface tr pr) k) R) : SOk Tryz.prog (nY (.iface te pe) (.iface tr pr) k) (fun f => bif2 (Nat.beq f 78) (some (treeS g78)) (R f)) := by
  refine sOk_belowG hR Tryz.func78 rfl (by kernel_rfl) ?_
  intro args Q h φ zs hz w hg
  have g4 : w.cell? ⟨4, 0, none⟩ = some (.iface te pe) := (hg 4 0 _ rfl).2
  have g5 : w.cell? ⟨5, 0, none⟩ = some (.iface tr pr) := (hg 5 0 _ rfl).2
  unfold g78 at h
  split at h
  · rename_i f s b c x
    obtain ⟨hs, h⟩ := br_ok h
    have hs : s.size ≤ 1000000 := Nat.le_of_ble_eq_true hs
    cases hz with
    | cons h1 t1 =>
      cases t1 with
      | cons h2 t2 =>
        cases t2 with
        | cons h3 t3 =>
          cases t3 with
          | cons h4 t4 =>
            cases t4 with
            | cons h5 t5 =>
              cases t5
              cases h1
              cases h2
              cases h3
              cases h4
              cases h5
              obtain ⟨a, b'⟩ := h
              cases e : (x == 2) with
              | true =>
                obtain rfl : x = 2 := eq_of_beq e
                exact (toe_syn f s b c te pe w (by omega) g4).mono fun e W ⟨N, he, hB⟩ => ⟨⟨_, _, he, a rfl, fun _ => .ifc _ _ _ (.top _)⟩, hB⟩
              | false =>
                obtain ⟨a, b'⟩ := b' e
                cases e : (x == 1) with
                | true =>
                  obtain rfl : x = 1 := eq_of_beq e
                  exact (toe_rng f s b c tr pr w (by omega) g5).mono fun e W ⟨N, he, hB⟩ => ⟨⟨_, _, he, a rfl, fun _ => .ifc _ _ _ (.top _)⟩, hB⟩
                | false => exact (b' e).elim
  · exact h.elim
noncomputable abbrev et (S : Sp) (d : Nat) := evFun Tryz.prog (ttOf tts) S (fns true).get 1048576 d
/-- What the laws lean on. -/
noncomputable def Sb : Sp := fun f => bif2 (Nat.beq f 44) (some (treeS g44y)) (bif2 (Nat.beq f 47) (some g47) (bif2 (Nat.beq f 30) (some g30) (bif2 (Nat.beq f 84) (some (treeS g84)) (bif2 (Nat.beq f 78) (some (treeS g78)) (Sx f)))))
theorem sb (te tr : TypeId) (pe pr : Value) (k : Nat) : SOk Tryz.prog (nY (.iface te pe) (.iface tr pr) k) Sb   := s44y (s47 (s30 (s84 (s78 (sx _)))))
def tailC : Code → Code
  | .seq _ b => b
  | c => c
/-- What Parse defers. -/
noncomputable def Dz : FuncId → Option DKd := fun f => bif2 (Nat.beq f 16) (some (.rcv (fi16 false) 5 2 (tailC (fi16 false).code))) none
theorem dz_ok : DOk Tryz.prog Dz := by
  intro f k h
  have h : bif2 (Nat.beq f 16) (some (.rcv (fi16 false) 5 2 (tailC (fi16 false).code))) none = some k := h
  rw [bif2_eq] at h
  split at h
  · rename_i e
    rw [Nat.eq_of_beq_eq_true e]
    injection h with h
    rw [← h]
    obtain ⟨fn, h1, h2, h3, hn, h4, h5⟩ := (fiOk16 false).ex
    have hc : CodeOk Tryz.prog (fi16 false).n (tailC (fi16 false).code) := h5.2
    exact ⟨Tryz.f16, _, _, _, _, _, _, _, _, Tryz.func16, rfl, rfl, rfl, by kernel_rfl, hc⟩
  · cases h
/-- Parse is told. -/
noncomputable def Sz : Sp := fun f => bif2 (Nat.beq f 8) (some (evFunD Tryz.prog (ttOf tts) 1048576 1048576 (et Sb 9) Dz (fi8 true))) (Sb f)
theorem sz (te tr : TypeId) (pe pr : Value) (k : Nat) : SOk Tryz.prog (nY (.iface te pe) (.iface tr pr) k) Sz :=
  sOk_defer tok (evFun_ok tok (sb te tr pe pr k) (fok true) hmix 9) hmix dz_ok (fiOk8 true) (sb te tr pe pr k)
end Go.Proofs.TabZ
