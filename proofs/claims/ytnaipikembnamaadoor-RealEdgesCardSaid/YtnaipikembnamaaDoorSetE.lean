/- Contracts of closed calls, by running the evaluator; without conditions. -/
import Derived.Test.YtnaipikembnamaaDoorErrE2
import Derived.Test.YtnaipikembnamaaDoorEngMd
set_option linter.all false
set_option linter.deprecated false
set_option maxRecDepth 1000000
set_option maxHeartbeats 4000000
namespace Go.Proofs.TabE
open Go Go.Eng Go.RowKit
/-- An error of the inner package as one of the outer package's: some error. -/
noncomputable def g41 : List AV → T AV
  | [.s f, .s s, .i .i64 b, .i .i64 c, .v (.iface 80 (.int .i64 k))] => .br (Nat.ble s.size 1000000) (.br (k == 2) (.ret (.ifc 83 .top)) (.br (k == 1) (.ret (.ifc 83 .top)) .fail)) .fail
  | _ => .fail
theorem s41 {te tr : TypeId} {pe pr : Value} {k : Nat} {R : Sp} (hR : SOk Tryd.prog (nE (.iface te pe) (.iface tr pr) k) R) : SOk Tryd.prog (nE (.iface te pe) (.iface tr pr) k) (fun f => bif2 (Nat.beq f 41) (some (treeS g41)) (R f)) := by
  refine sOk_belowG hR Tryd.func41 rfl (by kernel_rfl) ?_
  intro args Q h φ zs hz w hg
  have g4 : w.cell? ⟨4, 0, none⟩ = some (.iface te pe) := (hg 4 0 _ rfl).2
  have g5 : w.cell? ⟨5, 0, none⟩ = some (.iface tr pr) := (hg 5 0 _ rfl).2
  unfold g41 at h
  split at h
  · rename_i f s b c x
    obtain ⟨hs, h⟩ := br_ok h
    have hs : s.size ≤ 1000000 := Nat.le_of_ble_eq_true hs
    cases hz with
    | cons h1 t1 =>
      cases t1 with
      | cons h2 t2 =>
        cases t2 with
        | cons h3 t3 =>
          cases t3 with
          | cons h4 t4 =>
            cases t4 with
            | cons h5 t5 =>
              cases t5
              cases h1
              cases h2
              cases h3
              cases h4
              cases h5
              obtain ⟨a, b'⟩ := h
              cases e : (x == 2) with
              | true =>
                obtain rfl : x = 2 := eq_of_beq e
                exact (toe_syn f s b c te pe w (by omega) g4).mono fun e W ⟨N, he, hB⟩ => ⟨⟨_, _, he, a rfl, fun _ => .ifc _ _ _ (.top _)⟩, hB⟩
              | false =>
                obtain ⟨a, b'⟩ := b' e
                cases e : (x == 1) with
                | true =>
                  obtain rfl : x = 1 := eq_of_beq e
                  exact (toe_rng f s b c tr pr w (by omega) g5).mono fun e W ⟨N, he, hB⟩ => ⟨⟨_, _, he, a rfl, fun _ => .ifc _ _ _ (.top _)⟩, hB⟩
                | false => exact (b' e).elim
  · exact h.elim
/-- What the law leans on. -/
noncomputable def Se : Sp := fun f => bif2 (Nat.beq f 24) (some (treeS g24)) (bif2 (Nat.beq f 34) (some (treeS g34)) (bif2 (Nat.beq f 41) (some (treeS g41)) (Sx f)))
theorem se (te tr : TypeId) (pe pr : Value) (k : Nat) : SOk Tryd.prog (nE (.iface te pe) (.iface tr pr) k) Se := s24 (s34 (s41 (sx _)))
noncomputable abbrev et (S : Sp) (d : Nat) := evFun Tryd.prog (ttOf tts) S (fns true).get 1048576 d
end Go.Proofs.TabE
