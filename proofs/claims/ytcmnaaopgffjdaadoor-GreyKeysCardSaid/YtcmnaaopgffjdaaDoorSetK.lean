/- Contracts of closed calls, by running the evaluator; without conditions. -/
import Derived.Test.YtcmnaaopgffjdaaDoorDecK
set_option linter.all false
set_option linter.deprecated false
set_option maxRecDepth 1000000
set_option maxHeartbeats 4000000
namespace Go.Proofs.TabK
open Go Go.Eng
/-- What the law of keys calls. -/
noncomputable def Sk : Sp := fun f => bif2 (Nat.beq f 9) (some (treeS g9)) (bif2 (Nat.beq f 20) (some (treeS g20)) (bif2 (Nat.beq f 21) (some (viewS k21)) (Sn f)))
theorem sk (k : Nat) : SOk Tryd.prog (nK k) Sk := s9 (s20 (sOk_view tok (fok false) hmix (sn _) (sn _) v21))
theorem z1 (x : UInt8) : ByteArray.size { data := #[x] } = 1 := rfl
theorem emp : ({ data := { toList := [] } } : ByteArray) = ByteArray.empty := rfl
theorem itO_le {n : Int} (h : -9223372036854775808 ≤ n ∧ n ≤ 9223372036854775807) : (itO n).size ≤ 20 := by
  rw [itO_eq]
  show (Lib.itoa n).toArray.size ≤ 20
  rw [List.size_toArray]
  unfold Lib.itoa
  split
  · rw [List.length_cons, Lib.decDigits_length]
    have := nd_le 18 n.natAbs (by omega)
    omega
  · rw [Lib.decDigits_length]
    have := nd_le 18 n.toNat (by omega)
    omega
end Go.Proofs.TabK
