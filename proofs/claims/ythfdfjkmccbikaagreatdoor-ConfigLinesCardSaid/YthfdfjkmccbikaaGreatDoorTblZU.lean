/- What a function tells at the calls that occur, each a closed run by the kernel; and how a table of such runs is a contract; without conditions. -/
import Derived.Test.YthfdfjkmccbikaaGreatDoorTblZa
import Derived.Test.YthfdfjkmccbikaaGreatDoorTblZb
import Derived.Test.YthfdfjkmccbikaaGreatDoorTblZc
import Derived.Test.YthfdfjkmccbikaaGreatDoorTblZd
import Derived.Test.YthfdfjkmccbikaaGreatDoorTblZe
import Derived.Test.YthfdfjkmccbikaaGreatDoorTblZf
import Derived.Test.YthfdfjkmccbikaaGreatDoorTblZg
import Derived.Test.YthfdfjkmccbikaaGreatDoorTblZh
set_option linter.all false
set_option linter.deprecated false
set_option maxRecDepth 1000000
set_option maxHeartbeats 0
namespace Go.Proofs.TabZ
open Go Go.Eng
noncomputable def tblU : List Ent := [e0, e1, e2, e3, e4, e5, e6, e7, e8, e9, e10, e11, e12, e13, e14, e15, e16, e17, e18, e19, e20, e21, e22, e23, e24, e25, e26, e27, e28, e29, e30, e31, e32, e33, e34, e35, e36, e37, e38, e39, e40, e41, e42, e43, e44, e45, e46, e47, e48, e49, e50, e51, e52, e53, e54]
theorem tblU_ok : ∀ e ∈ tblU, entOk parse8 e = true := by
  intro e h
  simp only [tblU, List.mem_cons, List.not_mem_nil, or_false] at h
  rcases h with rfl | rfl | rfl | rfl | rfl | rfl | rfl | rfl | rfl | rfl | rfl | rfl | rfl | rfl | rfl | rfl | rfl | rfl | rfl | rfl | rfl | rfl | rfl | rfl | rfl | rfl | rfl | rfl | rfl | rfl | rfl | rfl | rfl | rfl | rfl | rfl | rfl | rfl | rfl | rfl | rfl | rfl | rfl | rfl | rfl | rfl | rfl | rfl | rfl | rfl | rfl | rfl | rfl | rfl | rfl
  · exact o0
  · exact o1
  · exact o2
  · exact o3
  · exact o4
  · exact o5
  · exact o6
  · exact o7
  · exact o8
  · exact o9
  · exact o10
  · exact o11
  · exact o12
  · exact o13
  · exact o14
  · exact o15
  · exact o16
  · exact o17
  · exact o18
  · exact o19
  · exact o20
  · exact o21
  · exact o22
  · exact o23
  · exact o24
  · exact o25
  · exact o26
  · exact o27
  · exact q28
  · exact q29
  · exact q30
  · exact q31
  · exact q32
  · exact q33
  · exact q34
  · exact o35
  · exact o36
  · exact o37
  · exact o38
  · exact o39
  · exact o40
  · exact o41
  · exact q42
  · exact q43
  · exact q44
  · exact q45
  · exact q46
  · exact q47
  · exact q48
  · exact o49
  · exact o50
  · exact o51
  · exact o52
  · exact o53
  · exact o54
end Go.Proofs.TabZ
