/- What a function tells at the calls that occur, each a closed run by the kernel; and how a table of such runs is a contract; without conditions. -/
import Derived.Test.YthfdfjkmccbikaaDoorTblS0a
import Derived.Test.YthfdfjkmccbikaaDoorTblS1a
import Derived.Test.YthfdfjkmccbikaaDoorTblS1b
import Derived.Test.YthfdfjkmccbikaaDoorTblS2a
import Derived.Test.YthfdfjkmccbikaaDoorTblS2b
import Derived.Test.YthfdfjkmccbikaaDoorTblS2c
import Derived.Test.YthfdfjkmccbikaaDoorTblS2d
import Derived.Test.YthfdfjkmccbikaaDoorTblS3a
import Derived.Test.YthfdfjkmccbikaaDoorTblS3b
import Derived.Test.YthfdfjkmccbikaaDoorTblS3c
import Derived.Test.YthfdfjkmccbikaaDoorTblS3d
import Derived.Test.YthfdfjkmccbikaaDoorTblS3e
import Derived.Test.YthfdfjkmccbikaaDoorTblS3f
import Derived.Test.YthfdfjkmccbikaaDoorTblS3g
set_option linter.all false
set_option linter.deprecated false
set_option maxRecDepth 1000000
set_option maxHeartbeats 0
namespace Go.Proofs.TabS
open Go Go.Eng
noncomputable def tblU : List Ent := [e0_0, e0_1, e0_2, e0_3, e1_0, e1_1, e1_2, e1_3, e1_4, e1_5, e1_6, e2_0, e2_1, e2_2, e2_3, e2_4, e2_5, e2_6, e2_7, e2_8, e2_9, e3_0, e3_1, e3_2, e3_3, e3_4, e3_5, e3_6, e3_7, e3_8, e3_9, e3_10, e3_11, e3_12]
theorem tblU_ok : ∀ e ∈ tblU, entOk pick e = true := by
  intro e h
  simp only [tblU, List.mem_cons, List.not_mem_nil, or_false] at h
  rcases h with rfl | rfl | rfl | rfl | rfl | rfl | rfl | rfl | rfl | rfl | rfl | rfl | rfl | rfl | rfl | rfl | rfl | rfl | rfl | rfl | rfl | rfl | rfl | rfl | rfl | rfl | rfl | rfl | rfl | rfl | rfl | rfl | rfl | rfl
  · exact o0_0
  · exact o0_1
  · exact o0_2
  · exact o0_3
  · exact o1_0
  · exact o1_1
  · exact o1_2
  · exact o1_3
  · exact o1_4
  · exact o1_5
  · exact o1_6
  · exact o2_0
  · exact o2_1
  · exact o2_2
  · exact o2_3
  · exact o2_4
  · exact o2_5
  · exact o2_6
  · exact o2_7
  · exact o2_8
  · exact o2_9
  · exact o3_0
  · exact o3_1
  · exact o3_2
  · exact o3_3
  · exact o3_4
  · exact o3_5
  · exact o3_6
  · exact o3_7
  · exact o3_8
  · exact o3_9
  · exact o3_10
  · exact o3_11
  · exact o3_12
end Go.Proofs.TabS
