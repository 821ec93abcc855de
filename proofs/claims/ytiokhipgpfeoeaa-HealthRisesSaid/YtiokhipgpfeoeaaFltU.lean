/- Lemmas about the evaluator of the code. -/
import Derived.Test.YtiokhipgpfeoeaaFltT
set_option linter.all false
set_option linter.deprecated false
set_option autoImplicit false
set_option maxRecDepth 100000
namespace Go.Eng
open Go
abbrev FO (a b : Nat) : Option Ordering := Ieee.Format.order { exponentBits := 11, fractionBits := 52 } a b
section
variable {y x : Nat} {c : Int} (hy : y < 18446744073709551616) (hh : healthO y c = true) (hc : c > 0) (hx : x < 18446744073709551616) (hn : (FO x x == some .eq) = true)
include hy hh hc hx hn
theorem riseA (h : (FO x y == some .gt || FO x y == some .eq) = true) : (FO (noteO y c x 4598175219545276416) y == some .lt) = false := rise_a hy hh hc hx hn h
theorem riseB (h : (FO x y == some .gt || FO x y == some .eq) = true) : (FO (noteO y c x 4602678819172646912) (noteO y c x 4598175219545276416) == some .lt) = false := rise_b hy hh hc hx hn h
theorem fallA (h : (FO x y == some .lt || FO x y == some .eq) = true) : (FO (noteO y c x 4598175219545276416) y == some .gt) = false := fall_a hy hh hc hx hn h
theorem fallB (h : (FO x y == some .lt || FO x y == some .eq) = true) : (FO (noteO y c x 4602678819172646912) (noteO y c x 4598175219545276416) == some .gt) = false := fall_b hy hh hc hx hn h
end
end Go.Eng
