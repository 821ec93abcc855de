/- The table of types and functions, proved to be the code of the program; without conditions. -/
import Derived.Test.YthnabafmjhackaaDoorEngMb
import Derived.Test.YthnabafmjhackaaDoorProg
import Derived.KernelRfl
set_option linter.all false
set_option linter.deprecated false
set_option autoImplicit false
set_option maxRecDepth 100000
namespace Go.Proofs.TabR
open Go Go.Eng Go.Proofs
noncomputable def ti2 : TI := ⟨.leaf, 1, 8, [.i .i64 0], .int .i64, false, [.int .i64]⟩
theorem tiOk2 : mkTI Tryd.prog 2 ti2.cmp = { ti2 with kinds := [] } := by kernel_rfl
noncomputable def ti3 : TI := ⟨.leaf, 1, 8, [.i .i64 0], .int .i64, false, [.int .i64]⟩
theorem tiOk3 : mkTI Tryd.prog 3 ti3.cmp = { ti3 with kinds := [] } := by kernel_rfl
noncomputable def ti4 : TI := ⟨.leaf, 1, 1, [.b false], .bool, false, [.bool]⟩
theorem tiOk4 : mkTI Tryd.prog 4 ti4.cmp = { ti4 with kinds := [] } := by kernel_rfl
noncomputable def ti5 : TI := ⟨.leaf, 1, 1, [.i .u8 0], .int .u8, false, [.int .u8]⟩
theorem tiOk5 : mkTI Tryd.prog 5 ti5.cmp = { ti5 with kinds := [] } := by kernel_rfl
noncomputable def ti9 : TI := ⟨.str, 1, 16, [.s ByteArray.empty], .str, false, [.str]⟩
theorem tiOk9 : mkTI Tryd.prog 9 ti9.cmp = { ti9 with kinds := [] } := by kernel_rfl
noncomputable def ti21 : TI := ⟨.leaf, 1, 4, [.i .i32 0], .int .i32, false, [.int .i32]⟩
theorem tiOk21 : mkTI Tryd.prog 21 ti21.cmp = { ti21 with kinds := [] } := by kernel_rfl
noncomputable def ti22 : TI := ⟨.sl 31, 1, 24, [.v (.slice none 0 0)], .other, false, [.other]⟩
theorem tiOk22 : mkTI Tryd.prog 22 ti22.cmp = { ti22 with kinds := [] } := by kernel_rfl
noncomputable def ti23 : TI := ⟨.sl 26, 1, 24, [.v (.slice none 0 0)], .other, false, [.other]⟩
theorem tiOk23 : mkTI Tryd.prog 23 ti23.cmp = { ti23 with kinds := [] } := by kernel_rfl
noncomputable def ti26 : TI := ⟨.leaf, 1, 8, [.v (.float .f64 0)], .flt, false, [.flt]⟩
theorem tiOk26 : mkTI Tryd.prog 26 ti26.cmp = { ti26 with kinds := [] } := by kernel_rfl
noncomputable def ti31 : TI := ⟨.leaf, 1, 8, [.i .u64 0], .int .u64, false, [.int .u64]⟩
theorem tiOk31 : mkTI Tryd.prog 31 ti31.cmp = { ti31 with kinds := [] } := by kernel_rfl
noncomputable def ti35 : TI := ⟨.leaf, 1, 8, [.i .u64 0], .int .u64, false, [.int .u64]⟩
theorem tiOk35 : mkTI Tryd.prog 35 ti35.cmp = { ti35 with kinds := [] } := by kernel_rfl
noncomputable def ti42 : TI := ⟨.leaf, 1, 8, [.i .i64 0], .int .i64, false, [.int .i64]⟩
theorem tiOk42 : mkTI Tryd.prog 42 ti42.cmp = { ti42 with kinds := [] } := by kernel_rfl
noncomputable def ti46 : TI := ⟨.sl 9, 1, 24, [.v (.slice none 0 0)], .other, false, [.other]⟩
theorem tiOk46 : mkTI Tryd.prog 46 ti46.cmp = { ti46 with kinds := [] } := by kernel_rfl
noncomputable def ti70 : TI := ⟨.ifc, 1, 16, [.v .nilIface], .other, false, [.other]⟩
theorem tiOk70 : mkTI Tryd.prog 70 ti70.cmp = { ti70 with kinds := [] } := by kernel_rfl
noncomputable def ti76 : TI := ⟨.sl 5, 1, 24, [.v (.slice none 0 0)], .other, false, [.other]⟩
theorem tiOk76 : mkTI Tryd.prog 76 ti76.cmp = { ti76 with kinds := [] } := by kernel_rfl
noncomputable def ti77 : TI := ⟨.arr 64 5, 64, 64, [.i .u8 0, .i .u8 0, .i .u8 0, .i .u8 0, .i .u8 0, .i .u8 0, .i .u8 0, .i .u8 0, .i .u8 0, .i .u8 0, .i .u8 0, .i .u8 0, .i .u8 0, .i .u8 0, .i .u8 0, .i .u8 0, .i .u8 0, .i .u8 0, .i .u8 0, .i .u8 0, .i .u8 0, .i .u8 0, .i .u8 0, .i .u8 0, .i .u8 0, .i .u8 0, .i .u8 0, .i .u8 0, .i .u8 0, .i .u8 0, .i .u8 0, .i .u8 0, .i .u8 0, .i .u8 0, .i .u8 0, .i .u8 0, .i .u8 0, .i .u8 0, .i .u8 0, .i .u8 0, .i .u8 0, .i .u8 0, .i .u8 0, .i .u8 0, .i .u8 0, .i .u8 0, .i .u8 0, .i .u8 0, .i .u8 0, .i .u8 0, .i .u8 0, .i .u8 0, .i .u8 0, .i .u8 0, .i .u8 0, .i .u8 0, .i .u8 0, .i .u8 0, .i .u8 0, .i .u8 0, .i .u8 0, .i .u8 0, .i .u8 0, .i .u8 0], .other, false, [.int .u8, .int .u8, .int .u8, .int .u8, .int .u8, .int .u8, .int .u8, .int .u8, .int .u8, .int .u8, .int .u8, .int .u8, .int .u8, .int .u8, .int .u8, .int .u8, .int .u8, .int .u8, .int .u8, .int .u8, .int .u8, .int .u8, .int .u8, .int .u8, .int .u8, .int .u8, .int .u8, .int .u8, .int .u8, .int .u8, .int .u8, .int .u8, .int .u8, .int .u8, .int .u8, .int .u8, .int .u8, .int .u8, .int .u8, .int .u8, .int .u8, .int .u8, .int .u8, .int .u8, .int .u8, .int .u8, .int .u8, .int .u8, .int .u8, .int .u8, .int .u8, .int .u8, .int .u8, .int .u8, .int .u8, .int .u8, .int .u8, .int .u8, .int .u8, .int .u8, .int .u8, .int .u8, .int .u8, .int .u8]⟩
theorem tiOk77 : mkTI Tryd.prog 77 ti77.cmp = { ti77 with kinds := [] } := by kernel_rfl
noncomputable def ti78 : TI := ⟨.arr 24 5, 24, 24, [.i .u8 0, .i .u8 0, .i .u8 0, .i .u8 0, .i .u8 0, .i .u8 0, .i .u8 0, .i .u8 0, .i .u8 0, .i .u8 0, .i .u8 0, .i .u8 0, .i .u8 0, .i .u8 0, .i .u8 0, .i .u8 0, .i .u8 0, .i .u8 0, .i .u8 0, .i .u8 0, .i .u8 0, .i .u8 0, .i .u8 0, .i .u8 0], .other, false, [.int .u8, .int .u8, .int .u8, .int .u8, .int .u8, .int .u8, .int .u8, .int .u8, .int .u8, .int .u8, .int .u8, .int .u8, .int .u8, .int .u8, .int .u8, .int .u8, .int .u8, .int .u8, .int .u8, .int .u8, .int .u8, .int .u8, .int .u8, .int .u8]⟩
theorem tiOk78 : mkTI Tryd.prog 78 ti78.cmp = { ti78 with kinds := [] } := by kernel_rfl
noncomputable def ti86 : TI := ⟨.arr 20 31, 20, 160, [.i .u64 0, .i .u64 0, .i .u64 0, .i .u64 0, .i .u64 0, .i .u64 0, .i .u64 0, .i .u64 0, .i .u64 0, .i .u64 0, .i .u64 0, .i .u64 0, .i .u64 0, .i .u64 0, .i .u64 0, .i .u64 0, .i .u64 0, .i .u64 0, .i .u64 0, .i .u64 0], .other, false, [.int .u64, .int .u64, .int .u64, .int .u64, .int .u64, .int .u64, .int .u64, .int .u64, .int .u64, .int .u64, .int .u64, .int .u64, .int .u64, .int .u64, .int .u64, .int .u64, .int .u64, .int .u64, .int .u64, .int .u64]⟩
theorem tiOk86 : mkTI Tryd.prog 86 ti86.cmp = { ti86 with kinds := [] } := by kernel_rfl
noncomputable def ti87 : TI := ⟨.leaf, 1, 4, [.i .u32 0], .int .u32, false, [.int .u32]⟩
theorem tiOk87 : mkTI Tryd.prog 87 ti87.cmp = { ti87 with kinds := [] } := by kernel_rfl
noncomputable def ti88 : TI := ⟨.arr 65 5, 65, 65, [.i .u8 0, .i .u8 0, .i .u8 0, .i .u8 0, .i .u8 0, .i .u8 0, .i .u8 0, .i .u8 0, .i .u8 0, .i .u8 0, .i .u8 0, .i .u8 0, .i .u8 0, .i .u8 0, .i .u8 0, .i .u8 0, .i .u8 0, .i .u8 0, .i .u8 0, .i .u8 0, .i .u8 0, .i .u8 0, .i .u8 0, .i .u8 0, .i .u8 0, .i .u8 0, .i .u8 0, .i .u8 0, .i .u8 0, .i .u8 0, .i .u8 0, .i .u8 0, .i .u8 0, .i .u8 0, .i .u8 0, .i .u8 0, .i .u8 0, .i .u8 0, .i .u8 0, .i .u8 0, .i .u8 0, .i .u8 0, .i .u8 0, .i .u8 0, .i .u8 0, .i .u8 0, .i .u8 0, .i .u8 0, .i .u8 0, .i .u8 0, .i .u8 0, .i .u8 0, .i .u8 0, .i .u8 0, .i .u8 0, .i .u8 0, .i .u8 0, .i .u8 0, .i .u8 0, .i .u8 0, .i .u8 0, .i .u8 0, .i .u8 0, .i .u8 0, .i .u8 0], .other, false, [.int .u8, .int .u8, .int .u8, .int .u8, .int .u8, .int .u8, .int .u8, .int .u8, .int .u8, .int .u8, .int .u8, .int .u8, .int .u8, .int .u8, .int .u8, .int .u8, .int .u8, .int .u8, .int .u8, .int .u8, .int .u8, .int .u8, .int .u8, .int .u8, .int .u8, .int .u8, .int .u8, .int .u8, .int .u8, .int .u8, .int .u8, .int .u8, .int .u8, .int .u8, .int .u8, .int .u8, .int .u8, .int .u8, .int .u8, .int .u8, .int .u8, .int .u8, .int .u8, .int .u8, .int .u8, .int .u8, .int .u8, .int .u8, .int .u8, .int .u8, .int .u8, .int .u8, .int .u8, .int .u8, .int .u8, .int .u8, .int .u8, .int .u8, .int .u8, .int .u8, .int .u8, .int .u8, .int .u8, .int .u8, .int .u8]⟩
theorem tiOk88 : mkTI Tryd.prog 88 ti88.cmp = { ti88 with kinds := [] } := by kernel_rfl
noncomputable def ti93 : TI := ⟨.leaf, 1, 8, [.i .i64 0], .int .i64, false, [.int .i64]⟩
theorem tiOk93 : mkTI Tryd.prog 93 ti93.cmp = { ti93 with kinds := [] } := by kernel_rfl
noncomputable def ti96 : TI := ⟨.leaf, 1, 8, [.v (.pointer none)], .ptr, false, [.other]⟩
theorem tiOk96 : mkTI Tryd.prog 96 ti96.cmp = { ti96 with kinds := [] } := by kernel_rfl
noncomputable def ti107 : TI := ⟨.st [(0, 9, 1), (1, 9, 1), (2, 70, 1)], 3, 48, [.s ByteArray.empty, .s ByteArray.empty, .v .nilIface], .other, false, [.str, .str, .other]⟩
theorem tiOk107 : mkTI Tryd.prog 107 ti107.cmp = { ti107 with kinds := [] } := by kernel_rfl
noncomputable def ti109 : TI := ⟨.arr 32 5, 32, 32, [.i .u8 0, .i .u8 0, .i .u8 0, .i .u8 0, .i .u8 0, .i .u8 0, .i .u8 0, .i .u8 0, .i .u8 0, .i .u8 0, .i .u8 0, .i .u8 0, .i .u8 0, .i .u8 0, .i .u8 0, .i .u8 0, .i .u8 0, .i .u8 0, .i .u8 0, .i .u8 0, .i .u8 0, .i .u8 0, .i .u8 0, .i .u8 0, .i .u8 0, .i .u8 0, .i .u8 0, .i .u8 0, .i .u8 0, .i .u8 0, .i .u8 0, .i .u8 0], .other, false, [.int .u8, .int .u8, .int .u8, .int .u8, .int .u8, .int .u8, .int .u8, .int .u8, .int .u8, .int .u8, .int .u8, .int .u8, .int .u8, .int .u8, .int .u8, .int .u8, .int .u8, .int .u8, .int .u8, .int .u8, .int .u8, .int .u8, .int .u8, .int .u8, .int .u8, .int .u8, .int .u8, .int .u8, .int .u8, .int .u8, .int .u8, .int .u8]⟩
theorem tiOk109 : mkTI Tryd.prog 109 ti109.cmp = { ti109 with kinds := [] } := by kernel_rfl
noncomputable def ti112 : TI := ⟨.leaf, 1, 8, [.v (.pointer none)], .ptr, false, [.other]⟩
theorem tiOk112 : mkTI Tryd.prog 112 ti112.cmp = { ti112 with kinds := [] } := by kernel_rfl
noncomputable def ti113 : TI := ⟨.leaf, 1, 8, [.v (.pointer none)], .ptr, false, [.other]⟩
theorem tiOk113 : mkTI Tryd.prog 113 ti113.cmp = { ti113 with kinds := [] } := by kernel_rfl
noncomputable def ti115 : TI := ⟨.st [(0, 9, 1)], 1, 16, [.s ByteArray.empty], .other, true, [.str]⟩
theorem tiOk115 : mkTI Tryd.prog 115 ti115.cmp = { ti115 with kinds := [] } := by kernel_rfl
noncomputable def tts : Tr TI := (.node 70 (.node 22 (.node 5 (.node 3 (.leaf 2 ti2) (.node 4 (.leaf 3 ti3) (.leaf 4 ti4))) (.node 9 (.leaf 5 ti5) (.node 21 (.leaf 9 ti9) (.leaf 21 ti21)))) (.node 31 (.node 23 (.leaf 22 ti22) (.node 26 (.leaf 23 ti23) (.leaf 26 ti26))) (.node 42 (.node 35 (.leaf 31 ti31) (.leaf 35 ti35)) (.node 46 (.leaf 42 ti42) (.leaf 46 ti46))))) (.node 93 (.node 78 (.node 76 (.leaf 70 ti70) (.node 77 (.leaf 76 ti76) (.leaf 77 ti77))) (.node 87 (.node 86 (.leaf 78 ti78) (.leaf 86 ti86)) (.node 88 (.leaf 87 ti87) (.leaf 88 ti88)))) (.node 109 (.node 96 (.leaf 93 ti93) (.node 107 (.leaf 96 ti96) (.leaf 107 ti107))) (.node 113 (.node 112 (.leaf 109 ti109) (.leaf 112 ti112)) (.node 115 (.leaf 113 ti113) (.leaf 115 ti115))))))
theorem tok : TTok Tryd.prog (ttOf tts) := ttOk_of (t := tts) (⟨⟨⟨⟨tiOk2, ⟨tiOk3, tiOk4⟩⟩, ⟨tiOk5, ⟨tiOk9, tiOk21⟩⟩⟩, ⟨⟨tiOk22, ⟨tiOk23, tiOk26⟩⟩, ⟨⟨tiOk31, tiOk35⟩, ⟨tiOk42, tiOk46⟩⟩⟩⟩, ⟨⟨⟨tiOk70, ⟨tiOk76, tiOk77⟩⟩, ⟨⟨tiOk78, tiOk86⟩, ⟨tiOk87, tiOk88⟩⟩⟩, ⟨⟨tiOk93, ⟨tiOk96, tiOk107⟩⟩, ⟨⟨tiOk109, tiOk112⟩, ⟨tiOk113, tiOk115⟩⟩⟩⟩⟩)
noncomputable def fi3 (z : Bool) : FI := fiOf Tryd.f3 ⟨[3, 4], z⟩
theorem fiOk3 (z : Bool) : FIok Tryd.prog 3 (fi3 z) := fiOk_of _ Tryd.func3 (by kernel_rfl)
noncomputable def fi4 (z : Bool) : FI := fiOf Tryd.f4 ⟨[3, 4, 5], z⟩
theorem fiOk4 (z : Bool) : FIok Tryd.prog 4 (fi4 z) := fiOk_of _ Tryd.func4 (by kernel_rfl)
noncomputable def fi5 (z : Bool) : FI := fiOf Tryd.f5 ⟨[0, 3, 4, 5, 6], z⟩
theorem fiOk5 (z : Bool) : FIok Tryd.prog 5 (fi5 z) := fiOk_of _ Tryd.func5 (by kernel_rfl)
noncomputable def fi6 (z : Bool) : FI := fiOf Tryd.f6 ⟨[0, 3], z⟩
theorem fiOk6 (z : Bool) : FIok Tryd.prog 6 (fi6 z) := fiOk_of _ Tryd.func6 (by kernel_rfl)
noncomputable def fi7 (z : Bool) : FI := fiOf Tryd.f7 ⟨[3, 4, 5, 6], z⟩
theorem fiOk7 (z : Bool) : FIok Tryd.prog 7 (fi7 z) := fiOk_of _ Tryd.func7 (by kernel_rfl)
noncomputable def fi8 (z : Bool) : FI := fiOf Tryd.f8 ⟨[0, 3, 4, 5, 6], z⟩
theorem fiOk8 (z : Bool) : FIok Tryd.prog 8 (fi8 z) := fiOk_of _ Tryd.func8 (by kernel_rfl)
noncomputable def fi9 (z : Bool) : FI := fiOf Tryd.f9 ⟨[3, 4, 5, 6], z⟩
theorem fiOk9 (z : Bool) : FIok Tryd.prog 9 (fi9 z) := fiOk_of _ Tryd.func9 (by kernel_rfl)
noncomputable def fi10 (z : Bool) : FI := fiOf Tryd.f10 ⟨[3, 4], z⟩
theorem fiOk10 (z : Bool) : FIok Tryd.prog 10 (fi10 z) := fiOk_of _ Tryd.func10 (by kernel_rfl)
noncomputable def fi11 (z : Bool) : FI := fiOf Tryd.f11 ⟨[0, 3], z⟩
theorem fiOk11 (z : Bool) : FIok Tryd.prog 11 (fi11 z) := fiOk_of _ Tryd.func11 (by kernel_rfl)
noncomputable def fi12 (z : Bool) : FI := fiOf Tryd.f12 ⟨[0, 3, 4, 5, 6, 7], z⟩
theorem fiOk12 (z : Bool) : FIok Tryd.prog 12 (fi12 z) := fiOk_of _ Tryd.func12 (by kernel_rfl)
noncomputable def fi13 (z : Bool) : FI := fiOf Tryd.f13 ⟨[0, 3, 4], z⟩
theorem fiOk13 (z : Bool) : FIok Tryd.prog 13 (fi13 z) := fiOk_of _ Tryd.func13 (by kernel_rfl)
noncomputable def fi14 (z : Bool) : FI := fiOf Tryd.f14 ⟨[], z⟩
theorem fiOk14 (z : Bool) : FIok Tryd.prog 14 (fi14 z) := fiOk_of _ Tryd.func14 (by kernel_rfl)
noncomputable def fi15 (z : Bool) : FI := fiOf Tryd.f15 ⟨[], z⟩
theorem fiOk15 (z : Bool) : FIok Tryd.prog 15 (fi15 z) := fiOk_of _ Tryd.func15 (by kernel_rfl)
noncomputable def fi16 (z : Bool) : FI := fiOf Tryd.f16 ⟨[], z⟩
theorem fiOk16 (z : Bool) : FIok Tryd.prog 16 (fi16 z) := fiOk_of _ Tryd.func16 (by kernel_rfl)
noncomputable def fi17 (z : Bool) : FI := fiOf Tryd.f17 ⟨[], z⟩
theorem fiOk17 (z : Bool) : FIok Tryd.prog 17 (fi17 z) := fiOk_of _ Tryd.func17 (by kernel_rfl)
noncomputable def fi18 (z : Bool) : FI := fiOf Tryd.f18 ⟨[], z⟩
theorem fiOk18 (z : Bool) : FIok Tryd.prog 18 (fi18 z) := fiOk_of _ Tryd.func18 (by kernel_rfl)
noncomputable def fi19 (z : Bool) : FI := fiOf Tryd.f19 ⟨[], z⟩
theorem fiOk19 (z : Bool) : FIok Tryd.prog 19 (fi19 z) := fiOk_of _ Tryd.func19 (by kernel_rfl)
noncomputable def fi20 (z : Bool) : FI := fiOf Tryd.f20 ⟨[], z⟩
theorem fiOk20 (z : Bool) : FIok Tryd.prog 20 (fi20 z) := fiOk_of _ Tryd.func20 (by kernel_rfl)
noncomputable def fi21 (z : Bool) : FI := fiOf Tryd.f21 ⟨[], z⟩
theorem fiOk21 (z : Bool) : FIok Tryd.prog 21 (fi21 z) := fiOk_of _ Tryd.func21 (by kernel_rfl)
noncomputable def fi22 (z : Bool) : FI := fiOf Tryd.f22 ⟨[], z⟩
theorem fiOk22 (z : Bool) : FIok Tryd.prog 22 (fi22 z) := fiOk_of _ Tryd.func22 (by kernel_rfl)
noncomputable def fi23 (z : Bool) : FI := fiOf Tryd.f23 ⟨[], z⟩
theorem fiOk23 (z : Bool) : FIok Tryd.prog 23 (fi23 z) := fiOk_of _ Tryd.func23 (by kernel_rfl)
noncomputable def fi24 (z : Bool) : FI := fiOf Tryd.f24 ⟨[], z⟩
theorem fiOk24 (z : Bool) : FIok Tryd.prog 24 (fi24 z) := fiOk_of _ Tryd.func24 (by kernel_rfl)
noncomputable def fi25 (z : Bool) : FI := fiOf Tryd.f25 ⟨[], z⟩
theorem fiOk25 (z : Bool) : FIok Tryd.prog 25 (fi25 z) := fiOk_of _ Tryd.func25 (by kernel_rfl)
noncomputable def fi26 (z : Bool) : FI := fiOf Tryd.f26 ⟨[], z⟩
theorem fiOk26 (z : Bool) : FIok Tryd.prog 26 (fi26 z) := fiOk_of _ Tryd.func26 (by kernel_rfl)
noncomputable def fi27 (z : Bool) : FI := fiOf Tryd.f27 ⟨[], z⟩
theorem fiOk27 (z : Bool) : FIok Tryd.prog 27 (fi27 z) := fiOk_of _ Tryd.func27 (by kernel_rfl)
noncomputable def fi28 (z : Bool) : FI := fiOf Tryd.f28 ⟨[], z⟩
theorem fiOk28 (z : Bool) : FIok Tryd.prog 28 (fi28 z) := fiOk_of _ Tryd.func28 (by kernel_rfl)
noncomputable def fi29 (z : Bool) : FI := fiOf Tryd.f29 ⟨[0, 3, 4], z⟩
theorem fiOk29 (z : Bool) : FIok Tryd.prog 29 (fi29 z) := fiOk_of _ Tryd.func29 (by kernel_rfl)
noncomputable def fi30 (z : Bool) : FI := fiOf Tryd.f30 ⟨[], z⟩
theorem fiOk30 (z : Bool) : FIok Tryd.prog 30 (fi30 z) := fiOk_of _ Tryd.func30 (by kernel_rfl)
noncomputable def fi31 (z : Bool) : FI := fiOf Tryd.f31 ⟨[0, 3, 4], z⟩
theorem fiOk31 (z : Bool) : FIok Tryd.prog 31 (fi31 z) := fiOk_of _ Tryd.func31 (by kernel_rfl)
noncomputable def fi33 (z : Bool) : FI := fiOf Tryd.f33 ⟨[], z⟩
theorem fiOk33 (z : Bool) : FIok Tryd.prog 33 (fi33 z) := fiOk_of _ Tryd.func33 (by kernel_rfl)
noncomputable def fi34 (z : Bool) : FI := fiOf Tryd.f34 ⟨[], z⟩
theorem fiOk34 (z : Bool) : FIok Tryd.prog 34 (fi34 z) := fiOk_of _ Tryd.func34 (by kernel_rfl)
noncomputable def fi35 (z : Bool) : FI := fiOf Tryd.f35 ⟨[], z⟩
theorem fiOk35 (z : Bool) : FIok Tryd.prog 35 (fi35 z) := fiOk_of _ Tryd.func35 (by kernel_rfl)
noncomputable def fi36 (z : Bool) : FI := fiOf Tryd.f36 ⟨[], z⟩
theorem fiOk36 (z : Bool) : FIok Tryd.prog 36 (fi36 z) := fiOk_of _ Tryd.func36 (by kernel_rfl)
noncomputable def fi37 (z : Bool) : FI := fiOf Tryd.f37 ⟨[], z⟩
theorem fiOk37 (z : Bool) : FIok Tryd.prog 37 (fi37 z) := fiOk_of _ Tryd.func37 (by kernel_rfl)
noncomputable def fi38 (z : Bool) : FI := fiOf Tryd.f38 ⟨[3, 4, 5], z⟩
theorem fiOk38 (z : Bool) : FIok Tryd.prog 38 (fi38 z) := fiOk_of _ Tryd.func38 (by kernel_rfl)
noncomputable def fi39 (z : Bool) : FI := fiOf Tryd.f39 ⟨[], z⟩
theorem fiOk39 (z : Bool) : FIok Tryd.prog 39 (fi39 z) := fiOk_of _ Tryd.func39 (by kernel_rfl)
noncomputable def fi40 (z : Bool) : FI := fiOf Tryd.f40 ⟨[0, 4, 5], z⟩
theorem fiOk40 (z : Bool) : FIok Tryd.prog 40 (fi40 z) := fiOk_of _ Tryd.func40 (by kernel_rfl)
noncomputable def fi41 (z : Bool) : FI := fiOf Tryd.f41 ⟨[], z⟩
theorem fiOk41 (z : Bool) : FIok Tryd.prog 41 (fi41 z) := fiOk_of _ Tryd.func41 (by kernel_rfl)
noncomputable def fi43 (z : Bool) : FI := fiOf Tryd.f43 ⟨[], z⟩
theorem fiOk43 (z : Bool) : FIok Tryd.prog 43 (fi43 z) := fiOk_of _ Tryd.func43 (by kernel_rfl)
noncomputable def fi44 (z : Bool) : FI := fiOf Tryd.f44 ⟨[], z⟩
theorem fiOk44 (z : Bool) : FIok Tryd.prog 44 (fi44 z) := fiOk_of _ Tryd.func44 (by kernel_rfl)
noncomputable def fi45 (z : Bool) : FI := fiOf Tryd.f45 ⟨[], z⟩
theorem fiOk45 (z : Bool) : FIok Tryd.prog 45 (fi45 z) := fiOk_of _ Tryd.func45 (by kernel_rfl)
noncomputable def fi46 (z : Bool) : FI := fiOf Tryd.f46 ⟨[1, 5, 6, 10, 11, 12], z⟩
theorem fiOk46 (z : Bool) : FIok Tryd.prog 46 (fi46 z) := fiOk_of _ Tryd.func46 (by kernel_rfl)
noncomputable def fi47 (z : Bool) : FI := fiOf Tryd.f47 ⟨[], z⟩
theorem fiOk47 (z : Bool) : FIok Tryd.prog 47 (fi47 z) := fiOk_of _ Tryd.func47 (by kernel_rfl)
noncomputable def fi48 (z : Bool) : FI := fiOf Tryd.f48 ⟨[], z⟩
theorem fiOk48 (z : Bool) : FIok Tryd.prog 48 (fi48 z) := fiOk_of _ Tryd.func48 (by kernel_rfl)
noncomputable def fi49 (z : Bool) : FI := fiOf Tryd.f49 ⟨[], z⟩
theorem fiOk49 (z : Bool) : FIok Tryd.prog 49 (fi49 z) := fiOk_of _ Tryd.func49 (by kernel_rfl)
noncomputable def fi50 (z : Bool) : FI := fiOf Tryd.f50 ⟨[], z⟩
theorem fiOk50 (z : Bool) : FIok Tryd.prog 50 (fi50 z) := fiOk_of _ Tryd.func50 (by kernel_rfl)
noncomputable def fi51 (z : Bool) : FI := fiOf Tryd.f51 ⟨[], z⟩
theorem fiOk51 (z : Bool) : FIok Tryd.prog 51 (fi51 z) := fiOk_of _ Tryd.func51 (by kernel_rfl)
noncomputable def fi52 (z : Bool) : FI := fiOf Tryd.f52 ⟨[], z⟩
theorem fiOk52 (z : Bool) : FIok Tryd.prog 52 (fi52 z) := fiOk_of _ Tryd.func52 (by kernel_rfl)
noncomputable def fi53 (z : Bool) : FI := fiOf Tryd.f53 ⟨[0, 3], z⟩
theorem fiOk53 (z : Bool) : FIok Tryd.prog 53 (fi53 z) := fiOk_of _ Tryd.func53 (by kernel_rfl)
noncomputable def fi54 (z : Bool) : FI := fiOf Tryd.f54 ⟨[0, 1, 5, 6, 7], z⟩
theorem fiOk54 (z : Bool) : FIok Tryd.prog 54 (fi54 z) := fiOk_of _ Tryd.func54 (by kernel_rfl)
noncomputable def fi55 (z : Bool) : FI := fiOf Tryd.f55 ⟨[0, 4, 5], z⟩
theorem fiOk55 (z : Bool) : FIok Tryd.prog 55 (fi55 z) := fiOk_of _ Tryd.func55 (by kernel_rfl)
noncomputable def fi56 (z : Bool) : FI := fiOf Tryd.f56 ⟨[0, 1, 6], z⟩
theorem fiOk56 (z : Bool) : FIok Tryd.prog 56 (fi56 z) := fiOk_of _ Tryd.func56 (by kernel_rfl)
noncomputable def fi57 (z : Bool) : FI := fiOf Tryd.f57 ⟨[], z⟩
theorem fiOk57 (z : Bool) : FIok Tryd.prog 57 (fi57 z) := fiOk_of _ Tryd.func57 (by kernel_rfl)
noncomputable def fi58 (z : Bool) : FI := fiOf Tryd.f58 ⟨[], z⟩
theorem fiOk58 (z : Bool) : FIok Tryd.prog 58 (fi58 z) := fiOk_of _ Tryd.func58 (by kernel_rfl)
noncomputable def fi59 (z : Bool) : FI := fiOf Tryd.f59 ⟨[], z⟩
theorem fiOk59 (z : Bool) : FIok Tryd.prog 59 (fi59 z) := fiOk_of _ Tryd.func59 (by kernel_rfl)
noncomputable def fi60 (z : Bool) : FI := fiOf Tryd.f60 ⟨[], z⟩
theorem fiOk60 (z : Bool) : FIok Tryd.prog 60 (fi60 z) := fiOk_of _ Tryd.func60 (by kernel_rfl)
noncomputable def fi61 (z : Bool) : FI := fiOf Tryd.f61 ⟨[], z⟩
theorem fiOk61 (z : Bool) : FIok Tryd.prog 61 (fi61 z) := fiOk_of _ Tryd.func61 (by kernel_rfl)
noncomputable def fi62 (z : Bool) : FI := fiOf Tryd.f62 ⟨[], z⟩
theorem fiOk62 (z : Bool) : FIok Tryd.prog 62 (fi62 z) := fiOk_of _ Tryd.func62 (by kernel_rfl)
noncomputable def fi63 (z : Bool) : FI := fiOf Tryd.f63 ⟨[], z⟩
theorem fiOk63 (z : Bool) : FIok Tryd.prog 63 (fi63 z) := fiOk_of _ Tryd.func63 (by kernel_rfl)
noncomputable def fi64 (z : Bool) : FI := fiOf Tryd.f64 ⟨[], z⟩
theorem fiOk64 (z : Bool) : FIok Tryd.prog 64 (fi64 z) := fiOk_of _ Tryd.func64 (by kernel_rfl)
noncomputable def fi65 (z : Bool) : FI := fiOf Tryd.f65 ⟨[], z⟩
theorem fiOk65 (z : Bool) : FIok Tryd.prog 65 (fi65 z) := fiOk_of _ Tryd.func65 (by kernel_rfl)
noncomputable def fi66 (z : Bool) : FI := fiOf Tryd.f66 ⟨[], z⟩
theorem fiOk66 (z : Bool) : FIok Tryd.prog 66 (fi66 z) := fiOk_of _ Tryd.func66 (by kernel_rfl)
noncomputable def fi67 (z : Bool) : FI := fiOf Tryd.f67 ⟨[0, 1, 4], z⟩
theorem fiOk67 (z : Bool) : FIok Tryd.prog 67 (fi67 z) := fiOk_of _ Tryd.func67 (by kernel_rfl)
noncomputable def fi68 (z : Bool) : FI := fiOf Tryd.f68 ⟨[0, 1, 3, 4, 10, 11, 12, 13, 14, 15, 16, 17], z⟩
theorem fiOk68 (z : Bool) : FIok Tryd.prog 68 (fi68 z) := fiOk_of _ Tryd.func68 (by kernel_rfl)
noncomputable def fi69 (z : Bool) : FI := fiOf Tryd.f69 ⟨[], z⟩
theorem fiOk69 (z : Bool) : FIok Tryd.prog 69 (fi69 z) := fiOk_of _ Tryd.func69 (by kernel_rfl)
noncomputable def fi70 (z : Bool) : FI := fiOf Tryd.f70 ⟨[], z⟩
theorem fiOk70 (z : Bool) : FIok Tryd.prog 70 (fi70 z) := fiOk_of _ Tryd.func70 (by kernel_rfl)
noncomputable def fi71 (z : Bool) : FI := fiOf Tryd.f71 ⟨[], z⟩
theorem fiOk71 (z : Bool) : FIok Tryd.prog 71 (fi71 z) := fiOk_of _ Tryd.func71 (by kernel_rfl)
noncomputable def fi72 (z : Bool) : FI := fiOf Tryd.f72 ⟨[1, 8, 9, 10, 11, 12, 13, 99, 100, 101], z⟩
theorem fiOk72 (z : Bool) : FIok Tryd.prog 72 (fi72 z) := fiOk_of _ Tryd.func72 (by kernel_rfl)
noncomputable def fi73 (z : Bool) : FI := fiOf Tryd.f73 ⟨[], z⟩
theorem fiOk73 (z : Bool) : FIok Tryd.prog 73 (fi73 z) := fiOk_of _ Tryd.func73 (by kernel_rfl)
noncomputable def fi74 (z : Bool) : FI := fiOf Tryd.f74 ⟨[5, 6, 47, 48, 49], z⟩
theorem fiOk74 (z : Bool) : FIok Tryd.prog 74 (fi74 z) := fiOk_of _ Tryd.func74 (by kernel_rfl)
noncomputable def fi75 (z : Bool) : FI := fiOf Tryd.f75 ⟨[], z⟩
theorem fiOk75 (z : Bool) : FIok Tryd.prog 75 (fi75 z) := fiOk_of _ Tryd.func75 (by kernel_rfl)
noncomputable def fi76 (z : Bool) : FI := fiOf Tryd.f76 ⟨[], z⟩
theorem fiOk76 (z : Bool) : FIok Tryd.prog 76 (fi76 z) := fiOk_of _ Tryd.func76 (by kernel_rfl)
noncomputable def fi77 (z : Bool) : FI := fiOf Tryd.f77 ⟨[], z⟩
theorem fiOk77 (z : Bool) : FIok Tryd.prog 77 (fi77 z) := fiOk_of _ Tryd.func77 (by kernel_rfl)
noncomputable def fi78 (z : Bool) : FI := fiOf Tryd.f78 ⟨[], z⟩
theorem fiOk78 (z : Bool) : FIok Tryd.prog 78 (fi78 z) := fiOk_of _ Tryd.func78 (by kernel_rfl)
noncomputable def fi79 (z : Bool) : FI := fiOf Tryd.f79 ⟨[], z⟩
theorem fiOk79 (z : Bool) : FIok Tryd.prog 79 (fi79 z) := fiOk_of _ Tryd.func79 (by kernel_rfl)
noncomputable def fi80 (z : Bool) : FI := fiOf Tryd.f80 ⟨[], z⟩
theorem fiOk80 (z : Bool) : FIok Tryd.prog 80 (fi80 z) := fiOk_of _ Tryd.func80 (by kernel_rfl)
noncomputable def fi81 (z : Bool) : FI := fiOf Tryd.f81 ⟨[], z⟩
theorem fiOk81 (z : Bool) : FIok Tryd.prog 81 (fi81 z) := fiOk_of _ Tryd.func81 (by kernel_rfl)
noncomputable def fi82 (z : Bool) : FI := fiOf Tryd.f82 ⟨[], z⟩
theorem fiOk82 (z : Bool) : FIok Tryd.prog 82 (fi82 z) := fiOk_of _ Tryd.func82 (by kernel_rfl)
noncomputable def fi83 (z : Bool) : FI := fiOf Tryd.f83 ⟨[0, 1, 5, 6, 7, 8, 9, 10], z⟩
theorem fiOk83 (z : Bool) : FIok Tryd.prog 83 (fi83 z) := fiOk_of _ Tryd.func83 (by kernel_rfl)
noncomputable def fi84 (z : Bool) : FI := fiOf Tryd.f84 ⟨[], z⟩
theorem fiOk84 (z : Bool) : FIok Tryd.prog 84 (fi84 z) := fiOk_of _ Tryd.func84 (by kernel_rfl)
noncomputable def fi85 (z : Bool) : FI := fiOf Tryd.f85 ⟨[0, 3, 4, 5], z⟩
theorem fiOk85 (z : Bool) : FIok Tryd.prog 85 (fi85 z) := fiOk_of _ Tryd.func85 (by kernel_rfl)
noncomputable def fi86 (z : Bool) : FI := fiOf Tryd.f86 ⟨[], z⟩
theorem fiOk86 (z : Bool) : FIok Tryd.prog 86 (fi86 z) := fiOk_of _ Tryd.func86 (by kernel_rfl)
noncomputable def fi87 (z : Bool) : FI := fiOf Tryd.f87 ⟨[], z⟩
theorem fiOk87 (z : Bool) : FIok Tryd.prog 87 (fi87 z) := fiOk_of _ Tryd.func87 (by kernel_rfl)
noncomputable def fi88 (z : Bool) : FI := fiOf Tryd.f88 ⟨[], z⟩
theorem fiOk88 (z : Bool) : FIok Tryd.prog 88 (fi88 z) := fiOk_of _ Tryd.func88 (by kernel_rfl)
noncomputable def fi89 (z : Bool) : FI := fiOf Tryd.f89 ⟨[], z⟩
theorem fiOk89 (z : Bool) : FIok Tryd.prog 89 (fi89 z) := fiOk_of _ Tryd.func89 (by kernel_rfl)
noncomputable def fi90 (z : Bool) : FI := fiOf Tryd.f90 ⟨[], z⟩
theorem fiOk90 (z : Bool) : FIok Tryd.prog 90 (fi90 z) := fiOk_of _ Tryd.func90 (by kernel_rfl)
noncomputable def fi91 (z : Bool) : FI := fiOf Tryd.f91 ⟨[], z⟩
theorem fiOk91 (z : Bool) : FIok Tryd.prog 91 (fi91 z) := fiOk_of _ Tryd.func91 (by kernel_rfl)
noncomputable def fi92 (z : Bool) : FI := fiOf Tryd.f92 ⟨[], z⟩
theorem fiOk92 (z : Bool) : FIok Tryd.prog 92 (fi92 z) := fiOk_of _ Tryd.func92 (by kernel_rfl)
noncomputable def fi93 (z : Bool) : FI := fiOf Tryd.f93 ⟨[], z⟩
theorem fiOk93 (z : Bool) : FIok Tryd.prog 93 (fi93 z) := fiOk_of _ Tryd.func93 (by kernel_rfl)
noncomputable def fi95 (z : Bool) : FI := fiOf Tryd.f95 ⟨[], z⟩
theorem fiOk95 (z : Bool) : FIok Tryd.prog 95 (fi95 z) := fiOk_of _ Tryd.func95 (by kernel_rfl)
noncomputable def fi96 (z : Bool) : FI := fiOf Tryd.f96 ⟨[0, 1, 5, 6, 7, 8, 9, 10], z⟩
theorem fiOk96 (z : Bool) : FIok Tryd.prog 96 (fi96 z) := fiOk_of _ Tryd.func96 (by kernel_rfl)
noncomputable def fi97 (z : Bool) : FI := fiOf Tryd.f97 ⟨[], z⟩
theorem fiOk97 (z : Bool) : FIok Tryd.prog 97 (fi97 z) := fiOk_of _ Tryd.func97 (by kernel_rfl)
noncomputable def fi98 (z : Bool) : FI := fiOf Tryd.f98 ⟨[], z⟩
theorem fiOk98 (z : Bool) : FIok Tryd.prog 98 (fi98 z) := fiOk_of _ Tryd.func98 (by kernel_rfl)
noncomputable def fi100 (z : Bool) : FI := fiOf Tryd.f100 ⟨[0, 4, 5, 6, 7, 8], z⟩
theorem fiOk100 (z : Bool) : FIok Tryd.prog 100 (fi100 z) := fiOk_of _ Tryd.func100 (by kernel_rfl)
noncomputable def fns (z : Bool) : Tr FI := (.node 52 (.node 26 (.node 14 (.node 8 (.node 5 (.node 4 (.leaf 3 (fi3 z)) (.leaf 4 (fi4 z))) (.node 6 (.leaf 5 (fi5 z)) (.node 7 (.leaf 6 (fi6 z)) (.leaf 7 (fi7 z))))) (.node 11 (.node 9 (.leaf 8 (fi8 z)) (.node 10 (.leaf 9 (fi9 z)) (.leaf 10 (fi10 z)))) (.node 12 (.leaf 11 (fi11 z)) (.node 13 (.leaf 12 (fi12 z)) (.leaf 13 (fi13 z)))))) (.node 20 (.node 17 (.node 15 (.leaf 14 (fi14 z)) (.node 16 (.leaf 15 (fi15 z)) (.leaf 16 (fi16 z)))) (.node 18 (.leaf 17 (fi17 z)) (.node 19 (.leaf 18 (fi18 z)) (.leaf 19 (fi19 z))))) (.node 23 (.node 21 (.leaf 20 (fi20 z)) (.node 22 (.leaf 21 (fi21 z)) (.leaf 22 (fi22 z)))) (.node 24 (.leaf 23 (fi23 z)) (.node 25 (.leaf 24 (fi24 z)) (.leaf 25 (fi25 z))))))) (.node 39 (.node 33 (.node 29 (.node 27 (.leaf 26 (fi26 z)) (.node 28 (.leaf 27 (fi27 z)) (.leaf 28 (fi28 z)))) (.node 30 (.leaf 29 (fi29 z)) (.node 31 (.leaf 30 (fi30 z)) (.leaf 31 (fi31 z))))) (.node 36 (.node 34 (.leaf 33 (fi33 z)) (.node 35 (.leaf 34 (fi34 z)) (.leaf 35 (fi35 z)))) (.node 37 (.leaf 36 (fi36 z)) (.node 38 (.leaf 37 (fi37 z)) (.leaf 38 (fi38 z)))))) (.node 46 (.node 43 (.node 40 (.leaf 39 (fi39 z)) (.node 41 (.leaf 40 (fi40 z)) (.leaf 41 (fi41 z)))) (.node 44 (.leaf 43 (fi43 z)) (.node 45 (.leaf 44 (fi44 z)) (.leaf 45 (fi45 z))))) (.node 49 (.node 47 (.leaf 46 (fi46 z)) (.node 48 (.leaf 47 (fi47 z)) (.leaf 48 (fi48 z)))) (.node 50 (.leaf 49 (fi49 z)) (.node 51 (.leaf 50 (fi50 z)) (.leaf 51 (fi51 z)))))))) (.node 75 (.node 63 (.node 57 (.node 54 (.node 53 (.leaf 52 (fi52 z)) (.leaf 53 (fi53 z))) (.node 55 (.leaf 54 (fi54 z)) (.node 56 (.leaf 55 (fi55 z)) (.leaf 56 (fi56 z))))) (.node 60 (.node 58 (.leaf 57 (fi57 z)) (.node 59 (.leaf 58 (fi58 z)) (.leaf 59 (fi59 z)))) (.node 61 (.leaf 60 (fi60 z)) (.node 62 (.leaf 61 (fi61 z)) (.leaf 62 (fi62 z)))))) (.node 69 (.node 66 (.node 64 (.leaf 63 (fi63 z)) (.node 65 (.leaf 64 (fi64 z)) (.leaf 65 (fi65 z)))) (.node 67 (.leaf 66 (fi66 z)) (.node 68 (.leaf 67 (fi67 z)) (.leaf 68 (fi68 z))))) (.node 72 (.node 70 (.leaf 69 (fi69 z)) (.node 71 (.leaf 70 (fi70 z)) (.leaf 71 (fi71 z)))) (.node 73 (.leaf 72 (fi72 z)) (.node 74 (.leaf 73 (fi73 z)) (.leaf 74 (fi74 z))))))) (.node 87 (.node 81 (.node 78 (.node 76 (.leaf 75 (fi75 z)) (.node 77 (.leaf 76 (fi76 z)) (.leaf 77 (fi77 z)))) (.node 79 (.leaf 78 (fi78 z)) (.node 80 (.leaf 79 (fi79 z)) (.leaf 80 (fi80 z))))) (.node 84 (.node 82 (.leaf 81 (fi81 z)) (.node 83 (.leaf 82 (fi82 z)) (.leaf 83 (fi83 z)))) (.node 85 (.leaf 84 (fi84 z)) (.node 86 (.leaf 85 (fi85 z)) (.leaf 86 (fi86 z)))))) (.node 93 (.node 90 (.node 88 (.leaf 87 (fi87 z)) (.node 89 (.leaf 88 (fi88 z)) (.leaf 89 (fi89 z)))) (.node 91 (.leaf 90 (fi90 z)) (.node 92 (.leaf 91 (fi91 z)) (.leaf 92 (fi92 z))))) (.node 97 (.node 95 (.leaf 93 (fi93 z)) (.node 96 (.leaf 95 (fi95 z)) (.leaf 96 (fi96 z)))) (.node 98 (.leaf 97 (fi97 z)) (.node 100 (.leaf 98 (fi98 z)) (.leaf 100 (fi100 z)))))))))
theorem fok (z : Bool) : FOk Tryd.prog (fns z).get := fOk_of (t := fns z) (⟨⟨⟨⟨⟨⟨fiOk3 z, fiOk4 z⟩, ⟨fiOk5 z, ⟨fiOk6 z, fiOk7 z⟩⟩⟩, ⟨⟨fiOk8 z, ⟨fiOk9 z, fiOk10 z⟩⟩, ⟨fiOk11 z, ⟨fiOk12 z, fiOk13 z⟩⟩⟩⟩, ⟨⟨⟨fiOk14 z, ⟨fiOk15 z, fiOk16 z⟩⟩, ⟨fiOk17 z, ⟨fiOk18 z, fiOk19 z⟩⟩⟩, ⟨⟨fiOk20 z, ⟨fiOk21 z, fiOk22 z⟩⟩, ⟨fiOk23 z, ⟨fiOk24 z, fiOk25 z⟩⟩⟩⟩⟩, ⟨⟨⟨⟨fiOk26 z, ⟨fiOk27 z, fiOk28 z⟩⟩, ⟨fiOk29 z, ⟨fiOk30 z, fiOk31 z⟩⟩⟩, ⟨⟨fiOk33 z, ⟨fiOk34 z, fiOk35 z⟩⟩, ⟨fiOk36 z, ⟨fiOk37 z, fiOk38 z⟩⟩⟩⟩, ⟨⟨⟨fiOk39 z, ⟨fiOk40 z, fiOk41 z⟩⟩, ⟨fiOk43 z, ⟨fiOk44 z, fiOk45 z⟩⟩⟩, ⟨⟨fiOk46 z, ⟨fiOk47 z, fiOk48 z⟩⟩, ⟨fiOk49 z, ⟨fiOk50 z, fiOk51 z⟩⟩⟩⟩⟩⟩, ⟨⟨⟨⟨⟨fiOk52 z, fiOk53 z⟩, ⟨fiOk54 z, ⟨fiOk55 z, fiOk56 z⟩⟩⟩, ⟨⟨fiOk57 z, ⟨fiOk58 z, fiOk59 z⟩⟩, ⟨fiOk60 z, ⟨fiOk61 z, fiOk62 z⟩⟩⟩⟩, ⟨⟨⟨fiOk63 z, ⟨fiOk64 z, fiOk65 z⟩⟩, ⟨fiOk66 z, ⟨fiOk67 z, fiOk68 z⟩⟩⟩, ⟨⟨fiOk69 z, ⟨fiOk70 z, fiOk71 z⟩⟩, ⟨fiOk72 z, ⟨fiOk73 z, fiOk74 z⟩⟩⟩⟩⟩, ⟨⟨⟨⟨fiOk75 z, ⟨fiOk76 z, fiOk77 z⟩⟩, ⟨fiOk78 z, ⟨fiOk79 z, fiOk80 z⟩⟩⟩, ⟨⟨fiOk81 z, ⟨fiOk82 z, fiOk83 z⟩⟩, ⟨fiOk84 z, ⟨fiOk85 z, fiOk86 z⟩⟩⟩⟩, ⟨⟨⟨fiOk87 z, ⟨fiOk88 z, fiOk89 z⟩⟩, ⟨fiOk90 z, ⟨fiOk91 z, fiOk92 z⟩⟩⟩, ⟨⟨fiOk93 z, ⟨fiOk95 z, fiOk96 z⟩⟩, ⟨fiOk97 z, ⟨fiOk98 z, fiOk100 z⟩⟩⟩⟩⟩⟩⟩)
theorem hmix : Tryd.prog.follows .mixedOrders = true := by kernel_rfl
end Go.Proofs.TabR
