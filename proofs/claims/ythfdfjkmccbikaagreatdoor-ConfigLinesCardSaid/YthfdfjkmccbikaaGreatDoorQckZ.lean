/- A run of config.Parse, by the evaluator; without conditions. -/
import Derived.Test.YthfdfjkmccbikaaGreatDoorSetY
import Derived.Test.YthfdfjkmccbikaaGreatDoorTblB
set_option linter.all false
set_option linter.deprecated false
set_option maxRecDepth 1000000
set_option maxHeartbeats 0
namespace Go.Proofs.TabZ
open Go Go.Eng
/-- A run of config.Parse. -/
noncomputable def parse8 : List AV → Mem → T (AV × Mem) := evFunD Tryz.prog (ttOf tts) 1048576 1048576 (et Sb 9) Dz (fi8 true)
noncomputable def spy (args : List AV) (lk : Nat) (objs : List AObj) : T (AV × Mem) := .pan (.tup args) ⟨lk + objs.length, lk, fun j => nthO objs (j - lk)⟩
end Go.Proofs.TabZ
