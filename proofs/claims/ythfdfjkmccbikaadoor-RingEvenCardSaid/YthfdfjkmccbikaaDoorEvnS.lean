/- The law of turns, run by the kernel for all lengths that leave the same of four; without conditions but that. -/
import Derived.Test.YthfdfjkmccbikaaDoorEvnS0
import Derived.Test.YthfdfjkmccbikaaDoorEvnS1
import Derived.Test.YthfdfjkmccbikaaDoorEvnS2
import Derived.Test.YthfdfjkmccbikaaDoorEvnS3
set_option linter.all false
set_option linter.deprecated false
set_option autoImplicit false
namespace Go.Proofs.TabS
open Go Go.Eng
/-- RingEven, whatever its lengths. -/
theorem ringEven_law (a b c : Bool) (n n2 n3 c1 c2 c3 : Nat) (x y z : List Col) : H (et (Sv tblU) 12 3 [.agg [.sl 0 0 n (some c1), .sl 1 0 n2 (some c2), .sl 2 0 n3 (some c3)]] (memL 3 [.ro a n x, .ro b n2 y, .ro c n3 z])) (fun x => x.1 = .b true) (fun _ _ => False) := by
  have h1 := wi_nonneg (n := (n : Int)) (m := 4) (by omega)
  have h2 := wi_lt (n := (n : Int)) (m := 4) (by omega)
  have h : wi (n : Int) 4 = 0 ∨ wi (n : Int) 4 = 1 ∨ wi (n : Int) 4 = 2 ∨ wi (n : Int) 4 = 3 := by omega
  rcases h with h | h | h | h
  · exact even0 a b c n n2 n3 c1 c2 c3 x y z h
  · exact even1 a b c n n2 n3 c1 c2 c3 x y z h
  · exact even2 a b c n n2 n3 c1 c2 c3 x y z h
  · exact even3 a b c n n2 n3 c1 c2 c3 x y z h
end Go.Proofs.TabS
