/- What the sums and copies of bytes are, proved by the evaluator for all arguments that each contract names. -/
import Derived.Test.YtpaiioipoibahaaArgC
set_option linter.all false
set_option linter.deprecated false
set_option maxRecDepth 1000000
set_option maxHeartbeats 4000000
namespace Go.Proofs.TabA
open Go Go.Eng

/-! ## What the sums are -/
abbrev uv (n : Int) : AV := .i .u32 n
noncomputable def xo (a b : Int) : Int := wr .u32 (BitVec.ofInt (IntKind.bits .u32) a ^^^ BitVec.ofInt (IntKind.bits .u32) b).toNat
noncomputable def an (a b : Int) : Int := wr .u32 (BitVec.ofInt (IntKind.bits .u32) a &&& BitVec.ofInt (IntKind.bits .u32) b).toNat
noncomputable def sh (a : Int) : Int := a.fdiv (2 ^ (min (Int.toNat 1) (IntKind.bits .u32)))
noncomputable def stA1 (s : Int) : Int := xo (sh s) (wr .u32 (3988292384 * an s 1))
noncomputable def stB1 (s : Int) : Int := if an s 1 = 1 then xo (sh s) 3988292384 else sh s
def itN (f : Int → Int) : Nat → Int → Int
  | 0, s => s
  | n + 1, s => f (itN f n s)
/-- The sum of n bytes from r on. -/
noncomputable def crN (f : Int → Int) (l : List Int) (r : Nat) (s : Int) : Nat → Int
  | 0 => s
  | n + 1 => itN f 8 (xo (crN f l r s n) (wr .u32 (l.getD (r + n) 0)))
end Go.Proofs.TabA
