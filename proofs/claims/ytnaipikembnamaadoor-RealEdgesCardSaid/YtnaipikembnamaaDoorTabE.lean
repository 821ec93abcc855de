/- The table of types and functions, proved to be the code of the program; without conditions. -/
import Derived.Test.YtnaipikembnamaaDoorEngMc
import Derived.Test.YtnaipikembnamaaDoorProg
import Derived.KernelRfl
set_option linter.all false
set_option linter.deprecated false
set_option autoImplicit false
set_option maxRecDepth 100000
namespace Go.Proofs.TabE
open Go Go.Eng Go.Proofs
noncomputable def ti2 : TI := ⟨.leaf, 1, 8, [.i .i64 0], .int .i64, false, [.int .i64]⟩
theorem tiOk2 : mkTI Tryd.prog 2 ti2.cmp = { ti2 with kinds := [] } := by kernel_rfl
noncomputable def ti3 : TI := ⟨.leaf, 1, 8, [.i .i64 0], .int .i64, false, [.int .i64]⟩
theorem tiOk3 : mkTI Tryd.prog 3 ti3.cmp = { ti3 with kinds := [] } := by kernel_rfl
noncomputable def ti4 : TI := ⟨.leaf, 1, 1, [.b false], .bool, false, [.bool]⟩
theorem tiOk4 : mkTI Tryd.prog 4 ti4.cmp = { ti4 with kinds := [] } := by kernel_rfl
noncomputable def ti5 : TI := ⟨.leaf, 1, 1, [.i .u8 0], .int .u8, false, [.int .u8]⟩
theorem tiOk5 : mkTI Tryd.prog 5 ti5.cmp = { ti5 with kinds := [] } := by kernel_rfl
noncomputable def ti9 : TI := ⟨.str, 1, 16, [.s ByteArray.empty], .str, false, [.str]⟩
theorem tiOk9 : mkTI Tryd.prog 9 ti9.cmp = { ti9 with kinds := [] } := by kernel_rfl
noncomputable def ti21 : TI := ⟨.leaf, 1, 4, [.i .i32 0], .int .i32, false, [.int .i32]⟩
theorem tiOk21 : mkTI Tryd.prog 21 ti21.cmp = { ti21 with kinds := [] } := by kernel_rfl
noncomputable def ti22 : TI := ⟨.sl 9, 1, 24, [.v (.slice none 0 0)], .other, false, [.other]⟩
theorem tiOk22 : mkTI Tryd.prog 22 ti22.cmp = { ti22 with kinds := [] } := by kernel_rfl
noncomputable def ti23 : TI := ⟨.sl 26, 1, 24, [.v (.slice none 0 0)], .other, false, [.other]⟩
theorem tiOk23 : mkTI Tryd.prog 23 ti23.cmp = { ti23 with kinds := [] } := by kernel_rfl
noncomputable def ti26 : TI := ⟨.leaf, 1, 8, [.v (.float .f64 0)], .flt, false, [.flt]⟩
theorem tiOk26 : mkTI Tryd.prog 26 ti26.cmp = { ti26 with kinds := [] } := by kernel_rfl
noncomputable def ti27 : TI := ⟨.leaf, 1, 8, [.i .i64 0], .int .i64, false, [.int .i64]⟩
theorem tiOk27 : mkTI Tryd.prog 27 ti27.cmp = { ti27 with kinds := [] } := by kernel_rfl
noncomputable def ti36 : TI := ⟨.leaf, 1, 8, [.i .u64 0], .int .u64, false, [.int .u64]⟩
theorem tiOk36 : mkTI Tryd.prog 36 ti36.cmp = { ti36 with kinds := [] } := by kernel_rfl
noncomputable def ti45 : TI := ⟨.leaf, 1, 8, [.i .u64 0], .int .u64, false, [.int .u64]⟩
theorem tiOk45 : mkTI Tryd.prog 45 ti45.cmp = { ti45 with kinds := [] } := by kernel_rfl
noncomputable def ti57 : TI := ⟨.ifc, 1, 16, [.v .nilIface], .other, false, [.other]⟩
theorem tiOk57 : mkTI Tryd.prog 57 ti57.cmp = { ti57 with kinds := [] } := by kernel_rfl
noncomputable def ti63 : TI := ⟨.arr 64 5, 64, 64, [.i .u8 0, .i .u8 0, .i .u8 0, .i .u8 0, .i .u8 0, .i .u8 0, .i .u8 0, .i .u8 0, .i .u8 0, .i .u8 0, .i .u8 0, .i .u8 0, .i .u8 0, .i .u8 0, .i .u8 0, .i .u8 0, .i .u8 0, .i .u8 0, .i .u8 0, .i .u8 0, .i .u8 0, .i .u8 0, .i .u8 0, .i .u8 0, .i .u8 0, .i .u8 0, .i .u8 0, .i .u8 0, .i .u8 0, .i .u8 0, .i .u8 0, .i .u8 0, .i .u8 0, .i .u8 0, .i .u8 0, .i .u8 0, .i .u8 0, .i .u8 0, .i .u8 0, .i .u8 0, .i .u8 0, .i .u8 0, .i .u8 0, .i .u8 0, .i .u8 0, .i .u8 0, .i .u8 0, .i .u8 0, .i .u8 0, .i .u8 0, .i .u8 0, .i .u8 0, .i .u8 0, .i .u8 0, .i .u8 0, .i .u8 0, .i .u8 0, .i .u8 0, .i .u8 0, .i .u8 0, .i .u8 0, .i .u8 0, .i .u8 0, .i .u8 0], .other, false, [.int .u8, .int .u8, .int .u8, .int .u8, .int .u8, .int .u8, .int .u8, .int .u8, .int .u8, .int .u8, .int .u8, .int .u8, .int .u8, .int .u8, .int .u8, .int .u8, .int .u8, .int .u8, .int .u8, .int .u8, .int .u8, .int .u8, .int .u8, .int .u8, .int .u8, .int .u8, .int .u8, .int .u8, .int .u8, .int .u8, .int .u8, .int .u8, .int .u8, .int .u8, .int .u8, .int .u8, .int .u8, .int .u8, .int .u8, .int .u8, .int .u8, .int .u8, .int .u8, .int .u8, .int .u8, .int .u8, .int .u8, .int .u8, .int .u8, .int .u8, .int .u8, .int .u8, .int .u8, .int .u8, .int .u8, .int .u8, .int .u8, .int .u8, .int .u8, .int .u8, .int .u8, .int .u8, .int .u8, .int .u8]⟩
theorem tiOk63 : mkTI Tryd.prog 63 ti63.cmp = { ti63 with kinds := [] } := by kernel_rfl
noncomputable def ti64 : TI := ⟨.arr 24 5, 24, 24, [.i .u8 0, .i .u8 0, .i .u8 0, .i .u8 0, .i .u8 0, .i .u8 0, .i .u8 0, .i .u8 0, .i .u8 0, .i .u8 0, .i .u8 0, .i .u8 0, .i .u8 0, .i .u8 0, .i .u8 0, .i .u8 0, .i .u8 0, .i .u8 0, .i .u8 0, .i .u8 0, .i .u8 0, .i .u8 0, .i .u8 0, .i .u8 0], .other, false, [.int .u8, .int .u8, .int .u8, .int .u8, .int .u8, .int .u8, .int .u8, .int .u8, .int .u8, .int .u8, .int .u8, .int .u8, .int .u8, .int .u8, .int .u8, .int .u8, .int .u8, .int .u8, .int .u8, .int .u8, .int .u8, .int .u8, .int .u8, .int .u8]⟩
theorem tiOk64 : mkTI Tryd.prog 64 ti64.cmp = { ti64 with kinds := [] } := by kernel_rfl
noncomputable def ti66 : TI := ⟨.sl 5, 1, 24, [.v (.slice none 0 0)], .other, false, [.other]⟩
theorem tiOk66 : mkTI Tryd.prog 66 ti66.cmp = { ti66 with kinds := [] } := by kernel_rfl
noncomputable def ti73 : TI := ⟨.arr 20 36, 20, 160, [.i .u64 0, .i .u64 0, .i .u64 0, .i .u64 0, .i .u64 0, .i .u64 0, .i .u64 0, .i .u64 0, .i .u64 0, .i .u64 0, .i .u64 0, .i .u64 0, .i .u64 0, .i .u64 0, .i .u64 0, .i .u64 0, .i .u64 0, .i .u64 0, .i .u64 0, .i .u64 0], .other, false, [.int .u64, .int .u64, .int .u64, .int .u64, .int .u64, .int .u64, .int .u64, .int .u64, .int .u64, .int .u64, .int .u64, .int .u64, .int .u64, .int .u64, .int .u64, .int .u64, .int .u64, .int .u64, .int .u64, .int .u64]⟩
theorem tiOk73 : mkTI Tryd.prog 73 ti73.cmp = { ti73 with kinds := [] } := by kernel_rfl
noncomputable def ti74 : TI := ⟨.leaf, 1, 4, [.i .u32 0], .int .u32, false, [.int .u32]⟩
theorem tiOk74 : mkTI Tryd.prog 74 ti74.cmp = { ti74 with kinds := [] } := by kernel_rfl
noncomputable def ti75 : TI := ⟨.arr 65 5, 65, 65, [.i .u8 0, .i .u8 0, .i .u8 0, .i .u8 0, .i .u8 0, .i .u8 0, .i .u8 0, .i .u8 0, .i .u8 0, .i .u8 0, .i .u8 0, .i .u8 0, .i .u8 0, .i .u8 0, .i .u8 0, .i .u8 0, .i .u8 0, .i .u8 0, .i .u8 0, .i .u8 0, .i .u8 0, .i .u8 0, .i .u8 0, .i .u8 0, .i .u8 0, .i .u8 0, .i .u8 0, .i .u8 0, .i .u8 0, .i .u8 0, .i .u8 0, .i .u8 0, .i .u8 0, .i .u8 0, .i .u8 0, .i .u8 0, .i .u8 0, .i .u8 0, .i .u8 0, .i .u8 0, .i .u8 0, .i .u8 0, .i .u8 0, .i .u8 0, .i .u8 0, .i .u8 0, .i .u8 0, .i .u8 0, .i .u8 0, .i .u8 0, .i .u8 0, .i .u8 0, .i .u8 0, .i .u8 0, .i .u8 0, .i .u8 0, .i .u8 0, .i .u8 0, .i .u8 0, .i .u8 0, .i .u8 0, .i .u8 0, .i .u8 0, .i .u8 0, .i .u8 0], .other, false, [.int .u8, .int .u8, .int .u8, .int .u8, .int .u8, .int .u8, .int .u8, .int .u8, .int .u8, .int .u8, .int .u8, .int .u8, .int .u8, .int .u8, .int .u8, .int .u8, .int .u8, .int .u8, .int .u8, .int .u8, .int .u8, .int .u8, .int .u8, .int .u8, .int .u8, .int .u8, .int .u8, .int .u8, .int .u8, .int .u8, .int .u8, .int .u8, .int .u8, .int .u8, .int .u8, .int .u8, .int .u8, .int .u8, .int .u8, .int .u8, .int .u8, .int .u8, .int .u8, .int .u8, .int .u8, .int .u8, .int .u8, .int .u8, .int .u8, .int .u8, .int .u8, .int .u8, .int .u8, .int .u8, .int .u8, .int .u8, .int .u8, .int .u8, .int .u8, .int .u8, .int .u8, .int .u8, .int .u8, .int .u8, .int .u8]⟩
theorem tiOk75 : mkTI Tryd.prog 75 ti75.cmp = { ti75 with kinds := [] } := by kernel_rfl
noncomputable def ti80 : TI := ⟨.leaf, 1, 8, [.i .i64 0], .int .i64, false, [.int .i64]⟩
theorem tiOk80 : mkTI Tryd.prog 80 ti80.cmp = { ti80 with kinds := [] } := by kernel_rfl
noncomputable def ti83 : TI := ⟨.leaf, 1, 8, [.v (.pointer none)], .ptr, false, [.other]⟩
theorem tiOk83 : mkTI Tryd.prog 83 ti83.cmp = { ti83 with kinds := [] } := by kernel_rfl
noncomputable def ti94 : TI := ⟨.st [(0, 9, 1), (1, 9, 1), (2, 57, 1)], 3, 48, [.s ByteArray.empty, .s ByteArray.empty, .v .nilIface], .other, false, [.str, .str, .other]⟩
theorem tiOk94 : mkTI Tryd.prog 94 ti94.cmp = { ti94 with kinds := [] } := by kernel_rfl
noncomputable def ti96 : TI := ⟨.arr 32 5, 32, 32, [.i .u8 0, .i .u8 0, .i .u8 0, .i .u8 0, .i .u8 0, .i .u8 0, .i .u8 0, .i .u8 0, .i .u8 0, .i .u8 0, .i .u8 0, .i .u8 0, .i .u8 0, .i .u8 0, .i .u8 0, .i .u8 0, .i .u8 0, .i .u8 0, .i .u8 0, .i .u8 0, .i .u8 0, .i .u8 0, .i .u8 0, .i .u8 0, .i .u8 0, .i .u8 0, .i .u8 0, .i .u8 0, .i .u8 0, .i .u8 0, .i .u8 0, .i .u8 0], .other, false, [.int .u8, .int .u8, .int .u8, .int .u8, .int .u8, .int .u8, .int .u8, .int .u8, .int .u8, .int .u8, .int .u8, .int .u8, .int .u8, .int .u8, .int .u8, .int .u8, .int .u8, .int .u8, .int .u8, .int .u8, .int .u8, .int .u8, .int .u8, .int .u8, .int .u8, .int .u8, .int .u8, .int .u8, .int .u8, .int .u8, .int .u8, .int .u8]⟩
theorem tiOk96 : mkTI Tryd.prog 96 ti96.cmp = { ti96 with kinds := [] } := by kernel_rfl
noncomputable def ti99 : TI := ⟨.leaf, 1, 8, [.v (.pointer none)], .ptr, false, [.other]⟩
theorem tiOk99 : mkTI Tryd.prog 99 ti99.cmp = { ti99 with kinds := [] } := by kernel_rfl
noncomputable def ti100 : TI := ⟨.leaf, 1, 8, [.v (.pointer none)], .ptr, false, [.other]⟩
theorem tiOk100 : mkTI Tryd.prog 100 ti100.cmp = { ti100 with kinds := [] } := by kernel_rfl
noncomputable def ti102 : TI := ⟨.st [(0, 9, 1)], 1, 16, [.s ByteArray.empty], .other, true, [.str]⟩
theorem tiOk102 : mkTI Tryd.prog 102 ti102.cmp = { ti102 with kinds := [] } := by kernel_rfl
noncomputable def tts : Tr TI := (.node 63 (.node 22 (.node 5 (.node 3 (.leaf 2 ti2) (.node 4 (.leaf 3 ti3) (.leaf 4 ti4))) (.node 9 (.leaf 5 ti5) (.node 21 (.leaf 9 ti9) (.leaf 21 ti21)))) (.node 27 (.node 23 (.leaf 22 ti22) (.node 26 (.leaf 23 ti23) (.leaf 26 ti26))) (.node 45 (.node 36 (.leaf 27 ti27) (.leaf 36 ti36)) (.node 57 (.leaf 45 ti45) (.leaf 57 ti57))))) (.node 80 (.node 73 (.node 64 (.leaf 63 ti63) (.node 66 (.leaf 64 ti64) (.leaf 66 ti66))) (.node 74 (.leaf 73 ti73) (.node 75 (.leaf 74 ti74) (.leaf 75 ti75)))) (.node 96 (.node 83 (.leaf 80 ti80) (.node 94 (.leaf 83 ti83) (.leaf 94 ti94))) (.node 100 (.node 99 (.leaf 96 ti96) (.leaf 99 ti99)) (.node 102 (.leaf 100 ti100) (.leaf 102 ti102))))))
theorem tok : TTok Tryd.prog (ttOf tts) := ttOk_of (t := tts) (⟨⟨⟨⟨tiOk2, ⟨tiOk3, tiOk4⟩⟩, ⟨tiOk5, ⟨tiOk9, tiOk21⟩⟩⟩, ⟨⟨tiOk22, ⟨tiOk23, tiOk26⟩⟩, ⟨⟨tiOk27, tiOk36⟩, ⟨tiOk45, tiOk57⟩⟩⟩⟩, ⟨⟨⟨tiOk63, ⟨tiOk64, tiOk66⟩⟩, ⟨tiOk73, ⟨tiOk74, tiOk75⟩⟩⟩, ⟨⟨tiOk80, ⟨tiOk83, tiOk94⟩⟩, ⟨⟨tiOk96, tiOk99⟩, ⟨tiOk100, tiOk102⟩⟩⟩⟩⟩)
noncomputable def fi3 (z : Bool) : FI := fiOf Tryd.f3 ⟨[0, 3, 4, 5, 6, 7], z⟩
theorem fiOk3 (z : Bool) : FIok Tryd.prog 3 (fi3 z) := fiOk_of _ Tryd.func3 (by kernel_rfl)
noncomputable def fi4 (z : Bool) : FI := fiOf Tryd.f4 ⟨[], z⟩
theorem fiOk4 (z : Bool) : FIok Tryd.prog 4 (fi4 z) := fiOk_of _ Tryd.func4 (by kernel_rfl)
noncomputable def fi5 (z : Bool) : FI := fiOf Tryd.f5 ⟨[], z⟩
theorem fiOk5 (z : Bool) : FIok Tryd.prog 5 (fi5 z) := fiOk_of _ Tryd.func5 (by kernel_rfl)
noncomputable def fi6 (z : Bool) : FI := fiOf Tryd.f6 ⟨[], z⟩
theorem fiOk6 (z : Bool) : FIok Tryd.prog 6 (fi6 z) := fiOk_of _ Tryd.func6 (by kernel_rfl)
noncomputable def fi7 (z : Bool) : FI := fiOf Tryd.f7 ⟨[], z⟩
theorem fiOk7 (z : Bool) : FIok Tryd.prog 7 (fi7 z) := fiOk_of _ Tryd.func7 (by kernel_rfl)
noncomputable def fi8 (z : Bool) : FI := fiOf Tryd.f8 ⟨[], z⟩
theorem fiOk8 (z : Bool) : FIok Tryd.prog 8 (fi8 z) := fiOk_of _ Tryd.func8 (by kernel_rfl)
noncomputable def fi9 (z : Bool) : FI := fiOf Tryd.f9 ⟨[], z⟩
theorem fiOk9 (z : Bool) : FIok Tryd.prog 9 (fi9 z) := fiOk_of _ Tryd.func9 (by kernel_rfl)
noncomputable def fi10 (z : Bool) : FI := fiOf Tryd.f10 ⟨[], z⟩
theorem fiOk10 (z : Bool) : FIok Tryd.prog 10 (fi10 z) := fiOk_of _ Tryd.func10 (by kernel_rfl)
noncomputable def fi12 (z : Bool) : FI := fiOf Tryd.f12 ⟨[], z⟩
theorem fiOk12 (z : Bool) : FIok Tryd.prog 12 (fi12 z) := fiOk_of _ Tryd.func12 (by kernel_rfl)
noncomputable def fi13 (z : Bool) : FI := fiOf Tryd.f13 ⟨[], z⟩
theorem fiOk13 (z : Bool) : FIok Tryd.prog 13 (fi13 z) := fiOk_of _ Tryd.func13 (by kernel_rfl)
noncomputable def fi14 (z : Bool) : FI := fiOf Tryd.f14 ⟨[], z⟩
theorem fiOk14 (z : Bool) : FIok Tryd.prog 14 (fi14 z) := fiOk_of _ Tryd.func14 (by kernel_rfl)
noncomputable def fi15 (z : Bool) : FI := fiOf Tryd.f15 ⟨[], z⟩
theorem fiOk15 (z : Bool) : FIok Tryd.prog 15 (fi15 z) := fiOk_of _ Tryd.func15 (by kernel_rfl)
noncomputable def fi16 (z : Bool) : FI := fiOf Tryd.f16 ⟨[], z⟩
theorem fiOk16 (z : Bool) : FIok Tryd.prog 16 (fi16 z) := fiOk_of _ Tryd.func16 (by kernel_rfl)
noncomputable def fi17 (z : Bool) : FI := fiOf Tryd.f17 ⟨[], z⟩
theorem fiOk17 (z : Bool) : FIok Tryd.prog 17 (fi17 z) := fiOk_of _ Tryd.func17 (by kernel_rfl)
noncomputable def fi18 (z : Bool) : FI := fiOf Tryd.f18 ⟨[], z⟩
theorem fiOk18 (z : Bool) : FIok Tryd.prog 18 (fi18 z) := fiOk_of _ Tryd.func18 (by kernel_rfl)
noncomputable def fi19 (z : Bool) : FI := fiOf Tryd.f19 ⟨[], z⟩
theorem fiOk19 (z : Bool) : FIok Tryd.prog 19 (fi19 z) := fiOk_of _ Tryd.func19 (by kernel_rfl)
noncomputable def fi20 (z : Bool) : FI := fiOf Tryd.f20 ⟨[], z⟩
theorem fiOk20 (z : Bool) : FIok Tryd.prog 20 (fi20 z) := fiOk_of _ Tryd.func20 (by kernel_rfl)
noncomputable def fi21 (z : Bool) : FI := fiOf Tryd.f21 ⟨[], z⟩
theorem fiOk21 (z : Bool) : FIok Tryd.prog 21 (fi21 z) := fiOk_of _ Tryd.func21 (by kernel_rfl)
noncomputable def fi22 (z : Bool) : FI := fiOf Tryd.f22 ⟨[], z⟩
theorem fiOk22 (z : Bool) : FIok Tryd.prog 22 (fi22 z) := fiOk_of _ Tryd.func22 (by kernel_rfl)
noncomputable def fi24 (z : Bool) : FI := fiOf Tryd.f24 ⟨[], z⟩
theorem fiOk24 (z : Bool) : FIok Tryd.prog 24 (fi24 z) := fiOk_of _ Tryd.func24 (by kernel_rfl)
noncomputable def fi25 (z : Bool) : FI := fiOf Tryd.f25 ⟨[], z⟩
theorem fiOk25 (z : Bool) : FIok Tryd.prog 25 (fi25 z) := fiOk_of _ Tryd.func25 (by kernel_rfl)
noncomputable def fi26 (z : Bool) : FI := fiOf Tryd.f26 ⟨[], z⟩
theorem fiOk26 (z : Bool) : FIok Tryd.prog 26 (fi26 z) := fiOk_of _ Tryd.func26 (by kernel_rfl)
noncomputable def fi27 (z : Bool) : FI := fiOf Tryd.f27 ⟨[], z⟩
theorem fiOk27 (z : Bool) : FIok Tryd.prog 27 (fi27 z) := fiOk_of _ Tryd.func27 (by kernel_rfl)
noncomputable def fi28 (z : Bool) : FI := fiOf Tryd.f28 ⟨[], z⟩
theorem fiOk28 (z : Bool) : FIok Tryd.prog 28 (fi28 z) := fiOk_of _ Tryd.func28 (by kernel_rfl)
noncomputable def fi29 (z : Bool) : FI := fiOf Tryd.f29 ⟨[], z⟩
theorem fiOk29 (z : Bool) : FIok Tryd.prog 29 (fi29 z) := fiOk_of _ Tryd.func29 (by kernel_rfl)
noncomputable def fi30 (z : Bool) : FI := fiOf Tryd.f30 ⟨[], z⟩
theorem fiOk30 (z : Bool) : FIok Tryd.prog 30 (fi30 z) := fiOk_of _ Tryd.func30 (by kernel_rfl)
noncomputable def fi31 (z : Bool) : FI := fiOf Tryd.f31 ⟨[], z⟩
theorem fiOk31 (z : Bool) : FIok Tryd.prog 31 (fi31 z) := fiOk_of _ Tryd.func31 (by kernel_rfl)
noncomputable def fi32 (z : Bool) : FI := fiOf Tryd.f32 ⟨[], z⟩
theorem fiOk32 (z : Bool) : FIok Tryd.prog 32 (fi32 z) := fiOk_of _ Tryd.func32 (by kernel_rfl)
noncomputable def fi33 (z : Bool) : FI := fiOf Tryd.f33 ⟨[], z⟩
theorem fiOk33 (z : Bool) : FIok Tryd.prog 33 (fi33 z) := fiOk_of _ Tryd.func33 (by kernel_rfl)
noncomputable def fi34 (z : Bool) : FI := fiOf Tryd.f34 ⟨[], z⟩
theorem fiOk34 (z : Bool) : FIok Tryd.prog 34 (fi34 z) := fiOk_of _ Tryd.func34 (by kernel_rfl)
noncomputable def fi35 (z : Bool) : FI := fiOf Tryd.f35 ⟨[0, 1, 4], z⟩
theorem fiOk35 (z : Bool) : FIok Tryd.prog 35 (fi35 z) := fiOk_of _ Tryd.func35 (by kernel_rfl)
noncomputable def fi36 (z : Bool) : FI := fiOf Tryd.f36 ⟨[0, 1, 3, 4, 10, 11, 12, 13, 14, 15, 16, 17], z⟩
theorem fiOk36 (z : Bool) : FIok Tryd.prog 36 (fi36 z) := fiOk_of _ Tryd.func36 (by kernel_rfl)
noncomputable def fi37 (z : Bool) : FI := fiOf Tryd.f37 ⟨[], z⟩
theorem fiOk37 (z : Bool) : FIok Tryd.prog 37 (fi37 z) := fiOk_of _ Tryd.func37 (by kernel_rfl)
noncomputable def fi38 (z : Bool) : FI := fiOf Tryd.f38 ⟨[], z⟩
theorem fiOk38 (z : Bool) : FIok Tryd.prog 38 (fi38 z) := fiOk_of _ Tryd.func38 (by kernel_rfl)
noncomputable def fi39 (z : Bool) : FI := fiOf Tryd.f39 ⟨[], z⟩
theorem fiOk39 (z : Bool) : FIok Tryd.prog 39 (fi39 z) := fiOk_of _ Tryd.func39 (by kernel_rfl)
noncomputable def fi40 (z : Bool) : FI := fiOf Tryd.f40 ⟨[1, 8, 9, 10, 11, 12, 13, 99, 100, 101], z⟩
theorem fiOk40 (z : Bool) : FIok Tryd.prog 40 (fi40 z) := fiOk_of _ Tryd.func40 (by kernel_rfl)
noncomputable def fi41 (z : Bool) : FI := fiOf Tryd.f41 ⟨[], z⟩
theorem fiOk41 (z : Bool) : FIok Tryd.prog 41 (fi41 z) := fiOk_of _ Tryd.func41 (by kernel_rfl)
noncomputable def fi42 (z : Bool) : FI := fiOf Tryd.f42 ⟨[5, 6, 47, 48, 49], z⟩
theorem fiOk42 (z : Bool) : FIok Tryd.prog 42 (fi42 z) := fiOk_of _ Tryd.func42 (by kernel_rfl)
noncomputable def fi43 (z : Bool) : FI := fiOf Tryd.f43 ⟨[], z⟩
theorem fiOk43 (z : Bool) : FIok Tryd.prog 43 (fi43 z) := fiOk_of _ Tryd.func43 (by kernel_rfl)
noncomputable def fi44 (z : Bool) : FI := fiOf Tryd.f44 ⟨[], z⟩
theorem fiOk44 (z : Bool) : FIok Tryd.prog 44 (fi44 z) := fiOk_of _ Tryd.func44 (by kernel_rfl)
noncomputable def fi45 (z : Bool) : FI := fiOf Tryd.f45 ⟨[], z⟩
theorem fiOk45 (z : Bool) : FIok Tryd.prog 45 (fi45 z) := fiOk_of _ Tryd.func45 (by kernel_rfl)
noncomputable def fi46 (z : Bool) : FI := fiOf Tryd.f46 ⟨[], z⟩
theorem fiOk46 (z : Bool) : FIok Tryd.prog 46 (fi46 z) := fiOk_of _ Tryd.func46 (by kernel_rfl)
noncomputable def fi47 (z : Bool) : FI := fiOf Tryd.f47 ⟨[], z⟩
theorem fiOk47 (z : Bool) : FIok Tryd.prog 47 (fi47 z) := fiOk_of _ Tryd.func47 (by kernel_rfl)
noncomputable def fi48 (z : Bool) : FI := fiOf Tryd.f48 ⟨[], z⟩
theorem fiOk48 (z : Bool) : FIok Tryd.prog 48 (fi48 z) := fiOk_of _ Tryd.func48 (by kernel_rfl)
noncomputable def fi49 (z : Bool) : FI := fiOf Tryd.f49 ⟨[], z⟩
theorem fiOk49 (z : Bool) : FIok Tryd.prog 49 (fi49 z) := fiOk_of _ Tryd.func49 (by kernel_rfl)
noncomputable def fi50 (z : Bool) : FI := fiOf Tryd.f50 ⟨[], z⟩
theorem fiOk50 (z : Bool) : FIok Tryd.prog 50 (fi50 z) := fiOk_of _ Tryd.func50 (by kernel_rfl)
noncomputable def fi51 (z : Bool) : FI := fiOf Tryd.f51 ⟨[0, 1, 5, 6, 7, 8, 9, 10], z⟩
theorem fiOk51 (z : Bool) : FIok Tryd.prog 51 (fi51 z) := fiOk_of _ Tryd.func51 (by kernel_rfl)
noncomputable def fi52 (z : Bool) : FI := fiOf Tryd.f52 ⟨[], z⟩
theorem fiOk52 (z : Bool) : FIok Tryd.prog 52 (fi52 z) := fiOk_of _ Tryd.func52 (by kernel_rfl)
noncomputable def fi53 (z : Bool) : FI := fiOf Tryd.f53 ⟨[0, 3, 4, 5], z⟩
theorem fiOk53 (z : Bool) : FIok Tryd.prog 53 (fi53 z) := fiOk_of _ Tryd.func53 (by kernel_rfl)
noncomputable def fi54 (z : Bool) : FI := fiOf Tryd.f54 ⟨[], z⟩
theorem fiOk54 (z : Bool) : FIok Tryd.prog 54 (fi54 z) := fiOk_of _ Tryd.func54 (by kernel_rfl)
noncomputable def fi55 (z : Bool) : FI := fiOf Tryd.f55 ⟨[], z⟩
theorem fiOk55 (z : Bool) : FIok Tryd.prog 55 (fi55 z) := fiOk_of _ Tryd.func55 (by kernel_rfl)
noncomputable def fi56 (z : Bool) : FI := fiOf Tryd.f56 ⟨[], z⟩
theorem fiOk56 (z : Bool) : FIok Tryd.prog 56 (fi56 z) := fiOk_of _ Tryd.func56 (by kernel_rfl)
noncomputable def fi57 (z : Bool) : FI := fiOf Tryd.f57 ⟨[], z⟩
theorem fiOk57 (z : Bool) : FIok Tryd.prog 57 (fi57 z) := fiOk_of _ Tryd.func57 (by kernel_rfl)
noncomputable def fi58 (z : Bool) : FI := fiOf Tryd.f58 ⟨[], z⟩
theorem fiOk58 (z : Bool) : FIok Tryd.prog 58 (fi58 z) := fiOk_of _ Tryd.func58 (by kernel_rfl)
noncomputable def fi59 (z : Bool) : FI := fiOf Tryd.f59 ⟨[], z⟩
theorem fiOk59 (z : Bool) : FIok Tryd.prog 59 (fi59 z) := fiOk_of _ Tryd.func59 (by kernel_rfl)
noncomputable def fi60 (z : Bool) : FI := fiOf Tryd.f60 ⟨[], z⟩
theorem fiOk60 (z : Bool) : FIok Tryd.prog 60 (fi60 z) := fiOk_of _ Tryd.func60 (by kernel_rfl)
noncomputable def fi61 (z : Bool) : FI := fiOf Tryd.f61 ⟨[], z⟩
theorem fiOk61 (z : Bool) : FIok Tryd.prog 61 (fi61 z) := fiOk_of _ Tryd.func61 (by kernel_rfl)
noncomputable def fi62 (z : Bool) : FI := fiOf Tryd.f62 ⟨[], z⟩
theorem fiOk62 (z : Bool) : FIok Tryd.prog 62 (fi62 z) := fiOk_of _ Tryd.func62 (by kernel_rfl)
noncomputable def fi64 (z : Bool) : FI := fiOf Tryd.f64 ⟨[], z⟩
theorem fiOk64 (z : Bool) : FIok Tryd.prog 64 (fi64 z) := fiOk_of _ Tryd.func64 (by kernel_rfl)
noncomputable def fi65 (z : Bool) : FI := fiOf Tryd.f65 ⟨[0, 1, 5, 6, 7, 8, 9, 10], z⟩
theorem fiOk65 (z : Bool) : FIok Tryd.prog 65 (fi65 z) := fiOk_of _ Tryd.func65 (by kernel_rfl)
noncomputable def fi66 (z : Bool) : FI := fiOf Tryd.f66 ⟨[], z⟩
theorem fiOk66 (z : Bool) : FIok Tryd.prog 66 (fi66 z) := fiOk_of _ Tryd.func66 (by kernel_rfl)
noncomputable def fi67 (z : Bool) : FI := fiOf Tryd.f67 ⟨[], z⟩
theorem fiOk67 (z : Bool) : FIok Tryd.prog 67 (fi67 z) := fiOk_of _ Tryd.func67 (by kernel_rfl)
noncomputable def fi69 (z : Bool) : FI := fiOf Tryd.f69 ⟨[0, 4, 5, 6, 7, 8], z⟩
theorem fiOk69 (z : Bool) : FIok Tryd.prog 69 (fi69 z) := fiOk_of _ Tryd.func69 (by kernel_rfl)
noncomputable def fns (z : Bool) : Tr FI := (.node 36 (.node 19 (.node 10 (.node 6 (.node 4 (.leaf 3 (fi3 z)) (.node 5 (.leaf 4 (fi4 z)) (.leaf 5 (fi5 z)))) (.node 8 (.node 7 (.leaf 6 (fi6 z)) (.leaf 7 (fi7 z))) (.node 9 (.leaf 8 (fi8 z)) (.leaf 9 (fi9 z))))) (.node 15 (.node 13 (.node 12 (.leaf 10 (fi10 z)) (.leaf 12 (fi12 z))) (.node 14 (.leaf 13 (fi13 z)) (.leaf 14 (fi14 z)))) (.node 17 (.node 16 (.leaf 15 (fi15 z)) (.leaf 16 (fi16 z))) (.node 18 (.leaf 17 (fi17 z)) (.leaf 18 (fi18 z)))))) (.node 28 (.node 24 (.node 21 (.node 20 (.leaf 19 (fi19 z)) (.leaf 20 (fi20 z))) (.node 22 (.leaf 21 (fi21 z)) (.leaf 22 (fi22 z)))) (.node 26 (.node 25 (.leaf 24 (fi24 z)) (.leaf 25 (fi25 z))) (.node 27 (.leaf 26 (fi26 z)) (.leaf 27 (fi27 z))))) (.node 32 (.node 30 (.node 29 (.leaf 28 (fi28 z)) (.leaf 29 (fi29 z))) (.node 31 (.leaf 30 (fi30 z)) (.leaf 31 (fi31 z)))) (.node 34 (.node 33 (.leaf 32 (fi32 z)) (.leaf 33 (fi33 z))) (.node 35 (.leaf 34 (fi34 z)) (.leaf 35 (fi35 z))))))) (.node 52 (.node 44 (.node 40 (.node 38 (.node 37 (.leaf 36 (fi36 z)) (.leaf 37 (fi37 z))) (.node 39 (.leaf 38 (fi38 z)) (.leaf 39 (fi39 z)))) (.node 42 (.node 41 (.leaf 40 (fi40 z)) (.leaf 41 (fi41 z))) (.node 43 (.leaf 42 (fi42 z)) (.leaf 43 (fi43 z))))) (.node 48 (.node 46 (.node 45 (.leaf 44 (fi44 z)) (.leaf 45 (fi45 z))) (.node 47 (.leaf 46 (fi46 z)) (.leaf 47 (fi47 z)))) (.node 50 (.node 49 (.leaf 48 (fi48 z)) (.leaf 49 (fi49 z))) (.node 51 (.leaf 50 (fi50 z)) (.leaf 51 (fi51 z)))))) (.node 60 (.node 56 (.node 54 (.node 53 (.leaf 52 (fi52 z)) (.leaf 53 (fi53 z))) (.node 55 (.leaf 54 (fi54 z)) (.leaf 55 (fi55 z)))) (.node 58 (.node 57 (.leaf 56 (fi56 z)) (.leaf 57 (fi57 z))) (.node 59 (.leaf 58 (fi58 z)) (.leaf 59 (fi59 z))))) (.node 65 (.node 62 (.node 61 (.leaf 60 (fi60 z)) (.leaf 61 (fi61 z))) (.node 64 (.leaf 62 (fi62 z)) (.leaf 64 (fi64 z)))) (.node 67 (.node 66 (.leaf 65 (fi65 z)) (.leaf 66 (fi66 z))) (.node 69 (.leaf 67 (fi67 z)) (.leaf 69 (fi69 z))))))))
theorem fok (z : Bool) : FOk Tryd.prog (fns z).get := fOk_of (t := fns z) (⟨⟨⟨⟨⟨fiOk3 z, ⟨fiOk4 z, fiOk5 z⟩⟩, ⟨⟨fiOk6 z, fiOk7 z⟩, ⟨fiOk8 z, fiOk9 z⟩⟩⟩, ⟨⟨⟨fiOk10 z, fiOk12 z⟩, ⟨fiOk13 z, fiOk14 z⟩⟩, ⟨⟨fiOk15 z, fiOk16 z⟩, ⟨fiOk17 z, fiOk18 z⟩⟩⟩⟩, ⟨⟨⟨⟨fiOk19 z, fiOk20 z⟩, ⟨fiOk21 z, fiOk22 z⟩⟩, ⟨⟨fiOk24 z, fiOk25 z⟩, ⟨fiOk26 z, fiOk27 z⟩⟩⟩, ⟨⟨⟨fiOk28 z, fiOk29 z⟩, ⟨fiOk30 z, fiOk31 z⟩⟩, ⟨⟨fiOk32 z, fiOk33 z⟩, ⟨fiOk34 z, fiOk35 z⟩⟩⟩⟩⟩, ⟨⟨⟨⟨⟨fiOk36 z, fiOk37 z⟩, ⟨fiOk38 z, fiOk39 z⟩⟩, ⟨⟨fiOk40 z, fiOk41 z⟩, ⟨fiOk42 z, fiOk43 z⟩⟩⟩, ⟨⟨⟨fiOk44 z, fiOk45 z⟩, ⟨fiOk46 z, fiOk47 z⟩⟩, ⟨⟨fiOk48 z, fiOk49 z⟩, ⟨fiOk50 z, fiOk51 z⟩⟩⟩⟩, ⟨⟨⟨⟨fiOk52 z, fiOk53 z⟩, ⟨fiOk54 z, fiOk55 z⟩⟩, ⟨⟨fiOk56 z, fiOk57 z⟩, ⟨fiOk58 z, fiOk59 z⟩⟩⟩, ⟨⟨⟨fiOk60 z, fiOk61 z⟩, ⟨fiOk62 z, fiOk64 z⟩⟩, ⟨⟨fiOk65 z, fiOk66 z⟩, ⟨fiOk67 z, fiOk69 z⟩⟩⟩⟩⟩⟩)
theorem hmix : Tryd.prog.follows .mixedOrders = true := by kernel_rfl
end Go.Proofs.TabE
