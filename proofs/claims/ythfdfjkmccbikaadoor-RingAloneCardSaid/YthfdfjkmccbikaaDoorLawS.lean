/- The law of a tenant alone, run by the kernel for all lengths that leave the same of five; without conditions but that. -/
import Derived.Test.YthfdfjkmccbikaaDoorLawS0
import Derived.Test.YthfdfjkmccbikaaDoorLawS1
import Derived.Test.YthfdfjkmccbikaaDoorLawS2
import Derived.Test.YthfdfjkmccbikaaDoorLawS3
import Derived.Test.YthfdfjkmccbikaaDoorLawS4
set_option linter.all false
set_option linter.deprecated false
set_option autoImplicit false
namespace Go.Proofs.TabS
open Go Go.Eng
/-- RingAlone, whatever its lengths. -/
theorem ringAlone_law (a b c : Bool) (n n2 n3 c1 c2 c3 : Nat) (x y z : List Col) (hn : n ≤ 1152921504606846976) : H (et Sr 12 4 [.agg [.sl 0 0 n (some c1), .sl 1 0 n2 (some c2), .sl 2 0 n3 (some c3)]] (memL 3 [.ro a n x, .ro b n2 y, .ro c n3 z])) (fun x => x.1 = .b true) (fun _ _ => False) := by
  have h : n % 5 = 0 ∨ n % 5 = 1 ∨ n % 5 = 2 ∨ n % 5 = 3 ∨ n % 5 = 4 := by omega
  rcases h with h | h | h | h | h
  · exact ring0 a b c n n2 n3 c1 c2 c3 x y z hn h
  · exact ring1 a b c n n2 n3 c1 c2 c3 x y z hn h
  · exact ring2 a b c n n2 n3 c1 c2 c3 x y z hn h
  · exact ring3 a b c n n2 n3 c1 c2 c3 x y z hn h
  · exact ring4 a b c n n2 n3 c1 c2 c3 x y z hn h
end Go.Proofs.TabS
