/- The table of types and functions, proved to be the code of the program; without conditions. -/
import Derived.Test.YtcmnaaopgffjdaaDoorEngMc
import Derived.Test.YtcmnaaopgffjdaaDoorProg
import Derived.KernelRfl
set_option linter.all false
set_option linter.deprecated false
set_option autoImplicit false
set_option maxRecDepth 100000
namespace Go.Proofs.TabX
open Go Go.Eng Go.Proofs
noncomputable def ti2 : TI := ⟨.leaf, 1, 8, [.i .i64 0], .int .i64, false, [.int .i64]⟩
theorem tiOk2 : mkTI Tryd.prog 2 ti2.cmp = { ti2 with kinds := [] } := by kernel_rfl
noncomputable def ti3 : TI := ⟨.leaf, 1, 8, [.i .i64 0], .int .i64, false, [.int .i64]⟩
theorem tiOk3 : mkTI Tryd.prog 3 ti3.cmp = { ti3 with kinds := [] } := by kernel_rfl
noncomputable def ti4 : TI := ⟨.leaf, 1, 1, [.b false], .bool, false, [.bool]⟩
theorem tiOk4 : mkTI Tryd.prog 4 ti4.cmp = { ti4 with kinds := [] } := by kernel_rfl
noncomputable def ti5 : TI := ⟨.leaf, 1, 1, [.i .u8 0], .int .u8, false, [.int .u8]⟩
theorem tiOk5 : mkTI Tryd.prog 5 ti5.cmp = { ti5 with kinds := [] } := by kernel_rfl
noncomputable def ti9 : TI := ⟨.str, 1, 16, [.s ByteArray.empty], .str, false, [.str]⟩
theorem tiOk9 : mkTI Tryd.prog 9 ti9.cmp = { ti9 with kinds := [] } := by kernel_rfl
noncomputable def ti20 : TI := ⟨.ifc, 1, 16, [.v .nilIface], .other, false, [.other]⟩
theorem tiOk20 : mkTI Tryd.prog 20 ti20.cmp = { ti20 with kinds := [] } := by kernel_rfl
noncomputable def ti25 : TI := ⟨.leaf, 1, 8, [.i .i64 0], .int .i64, false, [.int .i64]⟩
theorem tiOk25 : mkTI Tryd.prog 25 ti25.cmp = { ti25 with kinds := [] } := by kernel_rfl
noncomputable def ti33 : TI := ⟨.sl 39, 1, 24, [.v (.slice none 0 0)], .other, false, [.other]⟩
theorem tiOk33 : mkTI Tryd.prog 33 ti33.cmp = { ti33 with kinds := [] } := by kernel_rfl
noncomputable def ti35 : TI := ⟨.sl 9, 1, 24, [.v (.slice none 0 0)], .other, false, [.other]⟩
theorem tiOk35 : mkTI Tryd.prog 35 ti35.cmp = { ti35 with kinds := [] } := by kernel_rfl
noncomputable def ti37 : TI := ⟨.st [(0, 3, 1), (1, 35, 1)], 2, 32, [.i .i64 0, .v (.slice none 0 0)], .other, false, [.int .i64, .other]⟩
theorem tiOk37 : mkTI Tryd.prog 37 ti37.cmp = { ti37 with kinds := [] } := by kernel_rfl
noncomputable def ti39 : TI := ⟨.st [(0, 37, 2), (2, 35, 1)], 3, 56, [.i .i64 0, .v (.slice none 0 0), .v (.slice none 0 0)], .other, false, [.int .i64, .other, .other]⟩
theorem tiOk39 : mkTI Tryd.prog 39 ti39.cmp = { ti39 with kinds := [] } := by kernel_rfl
noncomputable def ti54 : TI := ⟨.leaf, 1, 8, [.v (.pointer none)], .ptr, false, [.other]⟩
theorem tiOk54 : mkTI Tryd.prog 54 ti54.cmp = { ti54 with kinds := [] } := by kernel_rfl
noncomputable def ti55 : TI := ⟨.sl 5, 1, 24, [.v (.slice none 0 0)], .other, false, [.other]⟩
theorem tiOk55 : mkTI Tryd.prog 55 ti55.cmp = { ti55 with kinds := [] } := by kernel_rfl
noncomputable def ti57 : TI := ⟨.st [(0, 54, 1), (1, 55, 1)], 2, 32, [.v (.pointer none), .v (.slice none 0 0)], .other, false, [.other, .other]⟩
theorem tiOk57 : mkTI Tryd.prog 57 ti57.cmp = { ti57 with kinds := [] } := by kernel_rfl
noncomputable def ti59 : TI := ⟨.ifc, 1, 16, [.v .nilIface], .other, false, [.other]⟩
theorem tiOk59 : mkTI Tryd.prog 59 ti59.cmp = { ti59 with kinds := [] } := by kernel_rfl
noncomputable def ti63 : TI := ⟨.leaf, 1, 8, [.v .nilFunc], .fnc, false, [.other]⟩
theorem tiOk63 : mkTI Tryd.prog 63 ti63.cmp = { ti63 with kinds := [] } := by kernel_rfl
noncomputable def ti66 : TI := ⟨.leaf, 1, 8, [.v (.pointer none)], .ptr, false, [.other]⟩
theorem tiOk66 : mkTI Tryd.prog 66 ti66.cmp = { ti66 with kinds := [] } := by kernel_rfl
noncomputable def ti73 : TI := ⟨.leaf, 1, 8, [.v (.pointer none)], .ptr, false, [.other]⟩
theorem tiOk73 : mkTI Tryd.prog 73 ti73.cmp = { ti73 with kinds := [] } := by kernel_rfl
noncomputable def ti76 : TI := ⟨.st [(0, 25, 1)], 1, 8, [.i .i64 0], .other, true, [.int .i64]⟩
theorem tiOk76 : mkTI Tryd.prog 76 ti76.cmp = { ti76 with kinds := [] } := by kernel_rfl
noncomputable def ti96 : TI := ⟨.arr 24 5, 24, 24, [.i .u8 0, .i .u8 0, .i .u8 0, .i .u8 0, .i .u8 0, .i .u8 0, .i .u8 0, .i .u8 0, .i .u8 0, .i .u8 0, .i .u8 0, .i .u8 0, .i .u8 0, .i .u8 0, .i .u8 0, .i .u8 0, .i .u8 0, .i .u8 0, .i .u8 0, .i .u8 0, .i .u8 0, .i .u8 0, .i .u8 0, .i .u8 0], .other, false, [.int .u8, .int .u8, .int .u8, .int .u8, .int .u8, .int .u8, .int .u8, .int .u8, .int .u8, .int .u8, .int .u8, .int .u8, .int .u8, .int .u8, .int .u8, .int .u8, .int .u8, .int .u8, .int .u8, .int .u8, .int .u8, .int .u8, .int .u8, .int .u8]⟩
theorem tiOk96 : mkTI Tryd.prog 96 ti96.cmp = { ti96 with kinds := [] } := by kernel_rfl
noncomputable def ti97 : TI := ⟨.leaf, 1, 8, [.i .u64 0], .int .u64, false, [.int .u64]⟩
theorem tiOk97 : mkTI Tryd.prog 97 ti97.cmp = { ti97 with kinds := [] } := by kernel_rfl
noncomputable def ti110 : TI := ⟨.arr 20 97, 20, 160, [.i .u64 0, .i .u64 0, .i .u64 0, .i .u64 0, .i .u64 0, .i .u64 0, .i .u64 0, .i .u64 0, .i .u64 0, .i .u64 0, .i .u64 0, .i .u64 0, .i .u64 0, .i .u64 0, .i .u64 0, .i .u64 0, .i .u64 0, .i .u64 0, .i .u64 0, .i .u64 0], .other, false, [.int .u64, .int .u64, .int .u64, .int .u64, .int .u64, .int .u64, .int .u64, .int .u64, .int .u64, .int .u64, .int .u64, .int .u64, .int .u64, .int .u64, .int .u64, .int .u64, .int .u64, .int .u64, .int .u64, .int .u64]⟩
theorem tiOk110 : mkTI Tryd.prog 110 ti110.cmp = { ti110 with kinds := [] } := by kernel_rfl
noncomputable def ti111 : TI := ⟨.leaf, 1, 4, [.i .u32 0], .int .u32, false, [.int .u32]⟩
theorem tiOk111 : mkTI Tryd.prog 111 ti111.cmp = { ti111 with kinds := [] } := by kernel_rfl
noncomputable def ti112 : TI := ⟨.arr 65 5, 65, 65, [.i .u8 0, .i .u8 0, .i .u8 0, .i .u8 0, .i .u8 0, .i .u8 0, .i .u8 0, .i .u8 0, .i .u8 0, .i .u8 0, .i .u8 0, .i .u8 0, .i .u8 0, .i .u8 0, .i .u8 0, .i .u8 0, .i .u8 0, .i .u8 0, .i .u8 0, .i .u8 0, .i .u8 0, .i .u8 0, .i .u8 0, .i .u8 0, .i .u8 0, .i .u8 0, .i .u8 0, .i .u8 0, .i .u8 0, .i .u8 0, .i .u8 0, .i .u8 0, .i .u8 0, .i .u8 0, .i .u8 0, .i .u8 0, .i .u8 0, .i .u8 0, .i .u8 0, .i .u8 0, .i .u8 0, .i .u8 0, .i .u8 0, .i .u8 0, .i .u8 0, .i .u8 0, .i .u8 0, .i .u8 0, .i .u8 0, .i .u8 0, .i .u8 0, .i .u8 0, .i .u8 0, .i .u8 0, .i .u8 0, .i .u8 0, .i .u8 0, .i .u8 0, .i .u8 0, .i .u8 0, .i .u8 0, .i .u8 0, .i .u8 0, .i .u8 0, .i .u8 0], .other, false, [.int .u8, .int .u8, .int .u8, .int .u8, .int .u8, .int .u8, .int .u8, .int .u8, .int .u8, .int .u8, .int .u8, .int .u8, .int .u8, .int .u8, .int .u8, .int .u8, .int .u8, .int .u8, .int .u8, .int .u8, .int .u8, .int .u8, .int .u8, .int .u8, .int .u8, .int .u8, .int .u8, .int .u8, .int .u8, .int .u8, .int .u8, .int .u8, .int .u8, .int .u8, .int .u8, .int .u8, .int .u8, .int .u8, .int .u8, .int .u8, .int .u8, .int .u8, .int .u8, .int .u8, .int .u8, .int .u8, .int .u8, .int .u8, .int .u8, .int .u8, .int .u8, .int .u8, .int .u8, .int .u8, .int .u8, .int .u8, .int .u8, .int .u8, .int .u8, .int .u8, .int .u8, .int .u8, .int .u8, .int .u8, .int .u8]⟩
theorem tiOk112 : mkTI Tryd.prog 112 ti112.cmp = { ti112 with kinds := [] } := by kernel_rfl
noncomputable def ti114 : TI := ⟨.leaf, 1, 8, [.i .u64 0], .int .u64, false, [.int .u64]⟩
theorem tiOk114 : mkTI Tryd.prog 114 ti114.cmp = { ti114 with kinds := [] } := by kernel_rfl
noncomputable def ti118 : TI := ⟨.arr 32 5, 32, 32, [.i .u8 0, .i .u8 0, .i .u8 0, .i .u8 0, .i .u8 0, .i .u8 0, .i .u8 0, .i .u8 0, .i .u8 0, .i .u8 0, .i .u8 0, .i .u8 0, .i .u8 0, .i .u8 0, .i .u8 0, .i .u8 0, .i .u8 0, .i .u8 0, .i .u8 0, .i .u8 0, .i .u8 0, .i .u8 0, .i .u8 0, .i .u8 0, .i .u8 0, .i .u8 0, .i .u8 0, .i .u8 0, .i .u8 0, .i .u8 0, .i .u8 0, .i .u8 0], .other, false, [.int .u8, .int .u8, .int .u8, .int .u8, .int .u8, .int .u8, .int .u8, .int .u8, .int .u8, .int .u8, .int .u8, .int .u8, .int .u8, .int .u8, .int .u8, .int .u8, .int .u8, .int .u8, .int .u8, .int .u8, .int .u8, .int .u8, .int .u8, .int .u8, .int .u8, .int .u8, .int .u8, .int .u8, .int .u8, .int .u8, .int .u8, .int .u8]⟩
theorem tiOk118 : mkTI Tryd.prog 118 ti118.cmp = { ti118 with kinds := [] } := by kernel_rfl
noncomputable def ti119 : TI := ⟨.arr 64 5, 64, 64, [.i .u8 0, .i .u8 0, .i .u8 0, .i .u8 0, .i .u8 0, .i .u8 0, .i .u8 0, .i .u8 0, .i .u8 0, .i .u8 0, .i .u8 0, .i .u8 0, .i .u8 0, .i .u8 0, .i .u8 0, .i .u8 0, .i .u8 0, .i .u8 0, .i .u8 0, .i .u8 0, .i .u8 0, .i .u8 0, .i .u8 0, .i .u8 0, .i .u8 0, .i .u8 0, .i .u8 0, .i .u8 0, .i .u8 0, .i .u8 0, .i .u8 0, .i .u8 0, .i .u8 0, .i .u8 0, .i .u8 0, .i .u8 0, .i .u8 0, .i .u8 0, .i .u8 0, .i .u8 0, .i .u8 0, .i .u8 0, .i .u8 0, .i .u8 0, .i .u8 0, .i .u8 0, .i .u8 0, .i .u8 0, .i .u8 0, .i .u8 0, .i .u8 0, .i .u8 0, .i .u8 0, .i .u8 0, .i .u8 0, .i .u8 0, .i .u8 0, .i .u8 0, .i .u8 0, .i .u8 0, .i .u8 0, .i .u8 0, .i .u8 0, .i .u8 0], .other, false, [.int .u8, .int .u8, .int .u8, .int .u8, .int .u8, .int .u8, .int .u8, .int .u8, .int .u8, .int .u8, .int .u8, .int .u8, .int .u8, .int .u8, .int .u8, .int .u8, .int .u8, .int .u8, .int .u8, .int .u8, .int .u8, .int .u8, .int .u8, .int .u8, .int .u8, .int .u8, .int .u8, .int .u8, .int .u8, .int .u8, .int .u8, .int .u8, .int .u8, .int .u8, .int .u8, .int .u8, .int .u8, .int .u8, .int .u8, .int .u8, .int .u8, .int .u8, .int .u8, .int .u8, .int .u8, .int .u8, .int .u8, .int .u8, .int .u8, .int .u8, .int .u8, .int .u8, .int .u8, .int .u8, .int .u8, .int .u8, .int .u8, .int .u8, .int .u8, .int .u8, .int .u8, .int .u8, .int .u8, .int .u8]⟩
theorem tiOk119 : mkTI Tryd.prog 119 ti119.cmp = { ti119 with kinds := [] } := by kernel_rfl
noncomputable def tts : Tr TI := (.node 57 (.node 25 (.node 5 (.node 3 (.leaf 2 ti2) (.node 4 (.leaf 3 ti3) (.leaf 4 ti4))) (.node 9 (.leaf 5 ti5) (.node 20 (.leaf 9 ti9) (.leaf 20 ti20)))) (.node 37 (.node 33 (.leaf 25 ti25) (.node 35 (.leaf 33 ti33) (.leaf 35 ti35))) (.node 54 (.node 39 (.leaf 37 ti37) (.leaf 39 ti39)) (.node 55 (.leaf 54 ti54) (.leaf 55 ti55))))) (.node 97 (.node 66 (.node 59 (.leaf 57 ti57) (.node 63 (.leaf 59 ti59) (.leaf 63 ti63))) (.node 76 (.node 73 (.leaf 66 ti66) (.leaf 73 ti73)) (.node 96 (.leaf 76 ti76) (.leaf 96 ti96)))) (.node 112 (.node 110 (.leaf 97 ti97) (.node 111 (.leaf 110 ti110) (.leaf 111 ti111))) (.node 118 (.node 114 (.leaf 112 ti112) (.leaf 114 ti114)) (.node 119 (.leaf 118 ti118) (.leaf 119 ti119))))))
theorem tok : TTok Tryd.prog (ttOf tts) := ttOk_of (t := tts) (⟨⟨⟨⟨tiOk2, ⟨tiOk3, tiOk4⟩⟩, ⟨tiOk5, ⟨tiOk9, tiOk20⟩⟩⟩, ⟨⟨tiOk25, ⟨tiOk33, tiOk35⟩⟩, ⟨⟨tiOk37, tiOk39⟩, ⟨tiOk54, tiOk55⟩⟩⟩⟩, ⟨⟨⟨tiOk57, ⟨tiOk59, tiOk63⟩⟩, ⟨⟨tiOk66, tiOk73⟩, ⟨tiOk76, tiOk96⟩⟩⟩, ⟨⟨tiOk97, ⟨tiOk110, tiOk111⟩⟩, ⟨⟨tiOk112, tiOk114⟩, ⟨tiOk118, tiOk119⟩⟩⟩⟩⟩)
noncomputable def fi4 (z : Bool) : FI := fiOf Tryd.f4 ⟨[0, 3], z⟩
theorem fiOk4 (z : Bool) : FIok Tryd.prog 4 (fi4 z) := fiOk_of _ Tryd.func4 (by kernel_rfl)
noncomputable def fi5 (z : Bool) : FI := fiOf Tryd.f5 ⟨[0, 3, 4, 6, 7, 8, 11], z⟩
theorem fiOk5 (z : Bool) : FIok Tryd.prog 5 (fi5 z) := fiOk_of _ Tryd.func5 (by kernel_rfl)
noncomputable def fi10 (z : Bool) : FI := fiOf Tryd.f10 ⟨[], z⟩
theorem fiOk10 (z : Bool) : FIok Tryd.prog 10 (fi10 z) := fiOk_of _ Tryd.func10 (by kernel_rfl)
noncomputable def fi11 (z : Bool) : FI := fiOf Tryd.f11 ⟨[0, 3, 4], z⟩
theorem fiOk11 (z : Bool) : FIok Tryd.prog 11 (fi11 z) := fiOk_of _ Tryd.func11 (by kernel_rfl)
noncomputable def fi12 (z : Bool) : FI := fiOf Tryd.f12 ⟨[1, 4, 12, 13, 14], z⟩
theorem fiOk12 (z : Bool) : FIok Tryd.prog 12 (fi12 z) := fiOk_of _ Tryd.func12 (by kernel_rfl)
noncomputable def fi13 (z : Bool) : FI := fiOf Tryd.f13 ⟨[1, 3], z⟩
theorem fiOk13 (z : Bool) : FIok Tryd.prog 13 (fi13 z) := fiOk_of _ Tryd.func13 (by kernel_rfl)
noncomputable def fi14 (z : Bool) : FI := fiOf Tryd.f14 ⟨[1, 3, 4], z⟩
theorem fiOk14 (z : Bool) : FIok Tryd.prog 14 (fi14 z) := fiOk_of _ Tryd.func14 (by kernel_rfl)
noncomputable def fi15 (z : Bool) : FI := fiOf Tryd.f15 ⟨[], z⟩
theorem fiOk15 (z : Bool) : FIok Tryd.prog 15 (fi15 z) := fiOk_of _ Tryd.func15 (by kernel_rfl)
noncomputable def fi16 (z : Bool) : FI := fiOf Tryd.f16 ⟨[], z⟩
theorem fiOk16 (z : Bool) : FIok Tryd.prog 16 (fi16 z) := fiOk_of _ Tryd.func16 (by kernel_rfl)
noncomputable def fi17 (z : Bool) : FI := fiOf Tryd.f17 ⟨[], z⟩
theorem fiOk17 (z : Bool) : FIok Tryd.prog 17 (fi17 z) := fiOk_of _ Tryd.func17 (by kernel_rfl)
noncomputable def fi18 (z : Bool) : FI := fiOf Tryd.f18 ⟨[], z⟩
theorem fiOk18 (z : Bool) : FIok Tryd.prog 18 (fi18 z) := fiOk_of _ Tryd.func18 (by kernel_rfl)
noncomputable def fi19 (z : Bool) : FI := fiOf Tryd.f19 ⟨[], z⟩
theorem fiOk19 (z : Bool) : FIok Tryd.prog 19 (fi19 z) := fiOk_of _ Tryd.func19 (by kernel_rfl)
noncomputable def fi21 (z : Bool) : FI := fiOf Tryd.f21 ⟨[0, 3], z⟩
theorem fiOk21 (z : Bool) : FIok Tryd.prog 21 (fi21 z) := fiOk_of _ Tryd.func21 (by kernel_rfl)
noncomputable def fi23 (z : Bool) : FI := fiOf Tryd.f23 ⟨[0, 3, 4], z⟩
theorem fiOk23 (z : Bool) : FIok Tryd.prog 23 (fi23 z) := fiOk_of _ Tryd.func23 (by kernel_rfl)
noncomputable def fi24 (z : Bool) : FI := fiOf Tryd.f24 ⟨[], z⟩
theorem fiOk24 (z : Bool) : FIok Tryd.prog 24 (fi24 z) := fiOk_of _ Tryd.func24 (by kernel_rfl)
noncomputable def fi25 (z : Bool) : FI := fiOf Tryd.f25 ⟨[], z⟩
theorem fiOk25 (z : Bool) : FIok Tryd.prog 25 (fi25 z) := fiOk_of _ Tryd.func25 (by kernel_rfl)
noncomputable def fi27 (z : Bool) : FI := fiOf Tryd.f27 ⟨[], z⟩
theorem fiOk27 (z : Bool) : FIok Tryd.prog 27 (fi27 z) := fiOk_of _ Tryd.func27 (by kernel_rfl)
noncomputable def fi28 (z : Bool) : FI := fiOf Tryd.f28 ⟨[0, 1, 5], z⟩
theorem fiOk28 (z : Bool) : FIok Tryd.prog 28 (fi28 z) := fiOk_of _ Tryd.func28 (by kernel_rfl)
noncomputable def fi29 (z : Bool) : FI := fiOf Tryd.f29 ⟨[], z⟩
theorem fiOk29 (z : Bool) : FIok Tryd.prog 29 (fi29 z) := fiOk_of _ Tryd.func29 (by kernel_rfl)
noncomputable def fi30 (z : Bool) : FI := fiOf Tryd.f30 ⟨[], z⟩
theorem fiOk30 (z : Bool) : FIok Tryd.prog 30 (fi30 z) := fiOk_of _ Tryd.func30 (by kernel_rfl)
noncomputable def fi31 (z : Bool) : FI := fiOf Tryd.f31 ⟨[2, 3, 13, 14, 15], z⟩
theorem fiOk31 (z : Bool) : FIok Tryd.prog 31 (fi31 z) := fiOk_of _ Tryd.func31 (by kernel_rfl)
noncomputable def fi36 (z : Bool) : FI := fiOf Tryd.f36 ⟨[], z⟩
theorem fiOk36 (z : Bool) : FIok Tryd.prog 36 (fi36 z) := fiOk_of _ Tryd.func36 (by kernel_rfl)
noncomputable def fi37 (z : Bool) : FI := fiOf Tryd.f37 ⟨[], z⟩
theorem fiOk37 (z : Bool) : FIok Tryd.prog 37 (fi37 z) := fiOk_of _ Tryd.func37 (by kernel_rfl)
noncomputable def fi38 (z : Bool) : FI := fiOf Tryd.f38 ⟨[0, 5, 6], z⟩
theorem fiOk38 (z : Bool) : FIok Tryd.prog 38 (fi38 z) := fiOk_of _ Tryd.func38 (by kernel_rfl)
noncomputable def fi40 (z : Bool) : FI := fiOf Tryd.f40 ⟨[0, 1, 5], z⟩
theorem fiOk40 (z : Bool) : FIok Tryd.prog 40 (fi40 z) := fiOk_of _ Tryd.func40 (by kernel_rfl)
noncomputable def fi41 (z : Bool) : FI := fiOf Tryd.f41 ⟨[], z⟩
theorem fiOk41 (z : Bool) : FIok Tryd.prog 41 (fi41 z) := fiOk_of _ Tryd.func41 (by kernel_rfl)
noncomputable def fi42 (z : Bool) : FI := fiOf Tryd.f42 ⟨[0, 2, 20], z⟩
theorem fiOk42 (z : Bool) : FIok Tryd.prog 42 (fi42 z) := fiOk_of _ Tryd.func42 (by kernel_rfl)
noncomputable def fi51 (z : Bool) : FI := fiOf Tryd.f51 ⟨[0, 1, 7, 8], z⟩
theorem fiOk51 (z : Bool) : FIok Tryd.prog 51 (fi51 z) := fiOk_of _ Tryd.func51 (by kernel_rfl)
noncomputable def fns (z : Bool) : Tr FI := (.node 24 (.node 15 (.node 11 (.node 5 (.leaf 4 (fi4 z)) (.node 10 (.leaf 5 (fi5 z)) (.leaf 10 (fi10 z)))) (.node 13 (.node 12 (.leaf 11 (fi11 z)) (.leaf 12 (fi12 z))) (.node 14 (.leaf 13 (fi13 z)) (.leaf 14 (fi14 z))))) (.node 18 (.node 16 (.leaf 15 (fi15 z)) (.node 17 (.leaf 16 (fi16 z)) (.leaf 17 (fi17 z)))) (.node 21 (.node 19 (.leaf 18 (fi18 z)) (.leaf 19 (fi19 z))) (.node 23 (.leaf 21 (fi21 z)) (.leaf 23 (fi23 z)))))) (.node 36 (.node 28 (.node 25 (.leaf 24 (fi24 z)) (.node 27 (.leaf 25 (fi25 z)) (.leaf 27 (fi27 z)))) (.node 30 (.node 29 (.leaf 28 (fi28 z)) (.leaf 29 (fi29 z))) (.node 31 (.leaf 30 (fi30 z)) (.leaf 31 (fi31 z))))) (.node 40 (.node 37 (.leaf 36 (fi36 z)) (.node 38 (.leaf 37 (fi37 z)) (.leaf 38 (fi38 z)))) (.node 42 (.node 41 (.leaf 40 (fi40 z)) (.leaf 41 (fi41 z))) (.node 51 (.leaf 42 (fi42 z)) (.leaf 51 (fi51 z)))))))
theorem fok (z : Bool) : FOk Tryd.prog (fns z).get := fOk_of (t := fns z) (⟨⟨⟨⟨fiOk4 z, ⟨fiOk5 z, fiOk10 z⟩⟩, ⟨⟨fiOk11 z, fiOk12 z⟩, ⟨fiOk13 z, fiOk14 z⟩⟩⟩, ⟨⟨fiOk15 z, ⟨fiOk16 z, fiOk17 z⟩⟩, ⟨⟨fiOk18 z, fiOk19 z⟩, ⟨fiOk21 z, fiOk23 z⟩⟩⟩⟩, ⟨⟨⟨fiOk24 z, ⟨fiOk25 z, fiOk27 z⟩⟩, ⟨⟨fiOk28 z, fiOk29 z⟩, ⟨fiOk30 z, fiOk31 z⟩⟩⟩, ⟨⟨fiOk36 z, ⟨fiOk37 z, fiOk38 z⟩⟩, ⟨⟨fiOk40 z, fiOk41 z⟩, ⟨fiOk42 z, fiOk51 z⟩⟩⟩⟩⟩)
theorem hmix : Tryd.prog.follows .mixedOrders = true := by kernel_rfl
end Go.Proofs.TabX
