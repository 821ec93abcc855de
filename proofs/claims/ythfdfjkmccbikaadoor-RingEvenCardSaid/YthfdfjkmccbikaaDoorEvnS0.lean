/- The law of turns, run by the kernel for all lengths that leave the same of four; without conditions but that. -/
import Derived.Test.YthfdfjkmccbikaaDoorTblU
import Derived.Test.YthfdfjkmccbikaaDoorOrcB
set_option linter.all false
set_option linter.deprecated false
set_option maxRecDepth 1000000
set_option maxHeartbeats 0
namespace Go.Proofs.TabS
open Go Go.Eng
theorem even0_run (a b c : Bool) (n n2 n3 c1 c2 c3 : Nat) (x y z : List Col) : orc (fun x => x.1 = .b true) [(53, true)] 100000 (et (Sv tblU) 12 3 [.agg [.sl 0 0 n (some c1), .sl 1 0 n2 (some c2), .sl 2 0 n3 (some c3)]] (memL 3 [.ro a n x, .ro b n2 y, .ro c n3 z])) = (decide (wi (n : Int) 4 = ((0 : Nat) : Int)) = true ∧ AV.b true = .b true) := by kernel_rfl
theorem even0 (a b c : Bool) (n n2 n3 c1 c2 c3 : Nat) (x y z : List Col) (hk : wi (n : Int) 4 = 0) : H (et (Sv tblU) 12 3 [.agg [.sl 0 0 n (some c1), .sl 1 0 n2 (some c2), .sl 2 0 n3 (some c3)]] (memL 3 [.ro a n x, .ro b n2 y, .ro c n3 z])) (fun x => x.1 = .b true) (fun _ _ => False) :=
  orc_ok _ _ _ ((even0_run a b c n n2 n3 c1 c2 c3 x y z).mpr ⟨decide_eq_true (by omega), rfl⟩)
end Go.Proofs.TabS
