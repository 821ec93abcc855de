/- The table of types and functions, proved to be the code of the program; without conditions. -/
import Derived.Test.YtnkglgcfemkibaaEngMc
import Derived.Test.YtnkglgcfemkibaaProg
import Derived.KernelRfl
set_option linter.all false
set_option linter.deprecated false
set_option autoImplicit false
set_option maxRecDepth 100000
namespace Go.Proofs.TabC
open Go Go.Eng Go.Proofs
noncomputable def ti3 : TI := ⟨.leaf, 1, 8, [.i .i64 0], .int .i64, false, [.int .i64]⟩
theorem tiOk3 : mkTI Try.prog 3 ti3.cmp = { ti3 with kinds := [] } := by kernel_rfl
noncomputable def ti4 : TI := ⟨.leaf, 1, 1, [.b false], .bool, false, [.bool]⟩
theorem tiOk4 : mkTI Try.prog 4 ti4.cmp = { ti4 with kinds := [] } := by kernel_rfl
noncomputable def ti5 : TI := ⟨.leaf, 1, 1, [.i .u8 0], .int .u8, false, [.int .u8]⟩
theorem tiOk5 : mkTI Try.prog 5 ti5.cmp = { ti5 with kinds := [] } := by kernel_rfl
noncomputable def ti9 : TI := ⟨.str, 1, 16, [.s ByteArray.empty], .str, false, [.str]⟩
theorem tiOk9 : mkTI Try.prog 9 ti9.cmp = { ti9 with kinds := [] } := by kernel_rfl
noncomputable def ti22 : TI := ⟨.sl 30, 1, 24, [.v (.slice none 0 0)], .other, false, [.other]⟩
theorem tiOk22 : mkTI Try.prog 22 ti22.cmp = { ti22 with kinds := [] } := by kernel_rfl
noncomputable def ti23 : TI := ⟨.sl 39, 1, 24, [.v (.slice none 0 0)], .other, false, [.other]⟩
theorem tiOk23 : mkTI Try.prog 23 ti23.cmp = { ti23 with kinds := [] } := by kernel_rfl
noncomputable def ti25 : TI := ⟨.st [(0, 22, 1), (1, 23, 1)], 2, 48, [.v (.slice none 0 0), .v (.slice none 0 0)], .other, false, [.other, .other]⟩
theorem tiOk25 : mkTI Try.prog 25 ti25.cmp = { ti25 with kinds := [] } := by kernel_rfl
noncomputable def ti26 : TI := ⟨.leaf, 1, 8, [.v (.pointer none)], .ptr, false, [.other]⟩
theorem tiOk26 : mkTI Try.prog 26 ti26.cmp = { ti26 with kinds := [] } := by kernel_rfl
noncomputable def ti27 : TI := ⟨.leaf, 1, 8, [.i .i64 0], .int .i64, false, [.int .i64]⟩
theorem tiOk27 : mkTI Try.prog 27 ti27.cmp = { ti27 with kinds := [] } := by kernel_rfl
noncomputable def ti30 : TI := ⟨.sl 5, 1, 24, [.v (.slice none 0 0)], .other, false, [.other]⟩
theorem tiOk30 : mkTI Try.prog 30 ti30.cmp = { ti30 with kinds := [] } := by kernel_rfl
noncomputable def ti33 : TI := ⟨.sl 3, 1, 24, [.v (.slice none 0 0)], .other, false, [.other]⟩
theorem tiOk33 : mkTI Try.prog 33 ti33.cmp = { ti33 with kinds := [] } := by kernel_rfl
noncomputable def ti39 : TI := ⟨.st [(0, 3, 1), (1, 3, 1), (2, 3, 1), (3, 3, 1), (4, 30, 1), (5, 33, 1)], 6, 80, [.i .i64 0, .i .i64 0, .i .i64 0, .i .i64 0, .v (.slice none 0 0), .v (.slice none 0 0)], .other, false, [.int .i64, .int .i64, .int .i64, .int .i64, .other, .other]⟩
theorem tiOk39 : mkTI Try.prog 39 ti39.cmp = { ti39 with kinds := [] } := by kernel_rfl
noncomputable def ti104 : TI := ⟨.sl 112, 1, 24, [.v (.slice none 0 0)], .other, false, [.other]⟩
theorem tiOk104 : mkTI Try.prog 104 ti104.cmp = { ti104 with kinds := [] } := by kernel_rfl
noncomputable def ti106 : TI := ⟨.st [(0, 30, 1), (1, 30, 1), (2, 104, 1)], 3, 72, [.v (.slice none 0 0), .v (.slice none 0 0), .v (.slice none 0 0)], .other, false, [.other, .other, .other]⟩
theorem tiOk106 : mkTI Try.prog 106 ti106.cmp = { ti106 with kinds := [] } := by kernel_rfl
noncomputable def ti107 : TI := ⟨.arr 3 106, 9, 216, [.v (.slice none 0 0), .v (.slice none 0 0), .v (.slice none 0 0), .v (.slice none 0 0), .v (.slice none 0 0), .v (.slice none 0 0), .v (.slice none 0 0), .v (.slice none 0 0), .v (.slice none 0 0)], .other, false, [.other, .other, .other, .other, .other, .other, .other, .other, .other]⟩
theorem tiOk107 : mkTI Try.prog 107 ti107.cmp = { ti107 with kinds := [] } := by kernel_rfl
noncomputable def ti109 : TI := ⟨.st [(0, 107, 9), (9, 4, 1), (10, 4, 1), (11, 3, 1)], 12, 232, [.v (.slice none 0 0), .v (.slice none 0 0), .v (.slice none 0 0), .v (.slice none 0 0), .v (.slice none 0 0), .v (.slice none 0 0), .v (.slice none 0 0), .v (.slice none 0 0), .v (.slice none 0 0), .b false, .b false, .i .i64 0], .other, false, [.other, .other, .other, .other, .other, .other, .other, .other, .other, .bool, .bool, .int .i64]⟩
theorem tiOk109 : mkTI Try.prog 109 ti109.cmp = { ti109 with kinds := [] } := by kernel_rfl
noncomputable def ti112 : TI := ⟨.st [(0, 4, 1), (1, 3, 1), (2, 30, 1)], 3, 40, [.b false, .i .i64 0, .v (.slice none 0 0)], .other, false, [.bool, .int .i64, .other]⟩
theorem tiOk112 : mkTI Try.prog 112 ti112.cmp = { ti112 with kinds := [] } := by kernel_rfl
noncomputable def tts : Tr TI := (.node 27 (.node 22 (.node 5 (.node 4 (.leaf 3 ti3) (.leaf 4 ti4)) (.node 9 (.leaf 5 ti5) (.leaf 9 ti9))) (.node 25 (.node 23 (.leaf 22 ti22) (.leaf 23 ti23)) (.node 26 (.leaf 25 ti25) (.leaf 26 ti26)))) (.node 104 (.node 33 (.node 30 (.leaf 27 ti27) (.leaf 30 ti30)) (.node 39 (.leaf 33 ti33) (.leaf 39 ti39))) (.node 107 (.node 106 (.leaf 104 ti104) (.leaf 106 ti106)) (.node 109 (.leaf 107 ti107) (.node 112 (.leaf 109 ti109) (.leaf 112 ti112))))))
theorem tok : TTok Try.prog (ttOf tts) := ttOk_of (t := tts) (⟨⟨⟨⟨tiOk3, tiOk4⟩, ⟨tiOk5, tiOk9⟩⟩, ⟨⟨tiOk22, tiOk23⟩, ⟨tiOk25, tiOk26⟩⟩⟩, ⟨⟨⟨tiOk27, tiOk30⟩, ⟨tiOk33, tiOk39⟩⟩, ⟨⟨tiOk104, tiOk106⟩, ⟨tiOk107, ⟨tiOk109, tiOk112⟩⟩⟩⟩⟩)
noncomputable def fi3 (z : Bool) : FI := fiOf Try.f3 ⟨[1, 3, 4, 5, 7], z⟩
theorem fiOk3 (z : Bool) : FIok Try.prog 3 (fi3 z) := fiOk_of _ Try.func3 (by kernel_rfl)
noncomputable def fi5 (z : Bool) : FI := fiOf Try.f5 ⟨[1, 3, 4, 6], z⟩
theorem fiOk5 (z : Bool) : FIok Try.prog 5 (fi5 z) := fiOk_of _ Try.func5 (by kernel_rfl)
noncomputable def fi7 (z : Bool) : FI := fiOf Try.f7 ⟨[1, 3, 4, 7, 11, 14, 15], z⟩
theorem fiOk7 (z : Bool) : FIok Try.prog 7 (fi7 z) := fiOk_of _ Try.func7 (by kernel_rfl)
noncomputable def fi14 (z : Bool) : FI := fiOf Try.f14 ⟨[4, 17, 18, 19], z⟩
theorem fiOk14 (z : Bool) : FIok Try.prog 14 (fi14 z) := fiOk_of _ Try.func14 (by kernel_rfl)
noncomputable def fi15 (z : Bool) : FI := fiOf Try.f15 ⟨[], z⟩
theorem fiOk15 (z : Bool) : FIok Try.prog 15 (fi15 z) := fiOk_of _ Try.func15 (by kernel_rfl)
noncomputable def fi16 (z : Bool) : FI := fiOf Try.f16 ⟨[], z⟩
theorem fiOk16 (z : Bool) : FIok Try.prog 16 (fi16 z) := fiOk_of _ Try.func16 (by kernel_rfl)
noncomputable def fi17 (z : Bool) : FI := fiOf Try.f17 ⟨[0, 4, 5, 7, 8, 9, 14, 39, 40, 41], z⟩
theorem fiOk17 (z : Bool) : FIok Try.prog 17 (fi17 z) := fiOk_of _ Try.func17 (by kernel_rfl)
noncomputable def fi18 (z : Bool) : FI := fiOf Try.f18 ⟨[], z⟩
theorem fiOk18 (z : Bool) : FIok Try.prog 18 (fi18 z) := fiOk_of _ Try.func18 (by kernel_rfl)
noncomputable def fi21 (z : Bool) : FI := fiOf Try.f21 ⟨[6, 23, 24, 25], z⟩
theorem fiOk21 (z : Bool) : FIok Try.prog 21 (fi21 z) := fiOk_of _ Try.func21 (by kernel_rfl)
noncomputable def fi22 (z : Bool) : FI := fiOf Try.f22 ⟨[], z⟩
theorem fiOk22 (z : Bool) : FIok Try.prog 22 (fi22 z) := fiOk_of _ Try.func22 (by kernel_rfl)
noncomputable def fi23 (z : Bool) : FI := fiOf Try.f23 ⟨[], z⟩
theorem fiOk23 (z : Bool) : FIok Try.prog 23 (fi23 z) := fiOk_of _ Try.func23 (by kernel_rfl)
noncomputable def fi28 (z : Bool) : FI := fiOf Try.f28 ⟨[], z⟩
theorem fiOk28 (z : Bool) : FIok Try.prog 28 (fi28 z) := fiOk_of _ Try.func28 (by kernel_rfl)
noncomputable def fi34 (z : Bool) : FI := fiOf Try.f34 ⟨[], z⟩
theorem fiOk34 (z : Bool) : FIok Try.prog 34 (fi34 z) := fiOk_of _ Try.func34 (by kernel_rfl)
noncomputable def fi67 (z : Bool) : FI := fiOf Try.f67 ⟨[], z⟩
theorem fiOk67 (z : Bool) : FIok Try.prog 67 (fi67 z) := fiOk_of _ Try.func67 (by kernel_rfl)
noncomputable def fi68 (z : Bool) : FI := fiOf Try.f68 ⟨[], z⟩
theorem fiOk68 (z : Bool) : FIok Try.prog 68 (fi68 z) := fiOk_of _ Try.func68 (by kernel_rfl)
noncomputable def fi69 (z : Bool) : FI := fiOf Try.f69 ⟨[], z⟩
theorem fiOk69 (z : Bool) : FIok Try.prog 69 (fi69 z) := fiOk_of _ Try.func69 (by kernel_rfl)
noncomputable def fi70 (z : Bool) : FI := fiOf Try.f70 ⟨[], z⟩
theorem fiOk70 (z : Bool) : FIok Try.prog 70 (fi70 z) := fiOk_of _ Try.func70 (by kernel_rfl)
noncomputable def fi71 (z : Bool) : FI := fiOf Try.f71 ⟨[], z⟩
theorem fiOk71 (z : Bool) : FIok Try.prog 71 (fi71 z) := fiOk_of _ Try.func71 (by kernel_rfl)
noncomputable def fi72 (z : Bool) : FI := fiOf Try.f72 ⟨[], z⟩
theorem fiOk72 (z : Bool) : FIok Try.prog 72 (fi72 z) := fiOk_of _ Try.func72 (by kernel_rfl)
noncomputable def fi74 (z : Bool) : FI := fiOf Try.f74 ⟨[], z⟩
theorem fiOk74 (z : Bool) : FIok Try.prog 74 (fi74 z) := fiOk_of _ Try.func74 (by kernel_rfl)
noncomputable def fns (z : Bool) : Tr FI := (.node 23 (.node 16 (.node 7 (.node 5 (.leaf 3 (fi3 z)) (.leaf 5 (fi5 z))) (.node 14 (.leaf 7 (fi7 z)) (.node 15 (.leaf 14 (fi14 z)) (.leaf 15 (fi15 z))))) (.node 18 (.node 17 (.leaf 16 (fi16 z)) (.leaf 17 (fi17 z))) (.node 21 (.leaf 18 (fi18 z)) (.node 22 (.leaf 21 (fi21 z)) (.leaf 22 (fi22 z)))))) (.node 69 (.node 34 (.node 28 (.leaf 23 (fi23 z)) (.leaf 28 (fi28 z))) (.node 67 (.leaf 34 (fi34 z)) (.node 68 (.leaf 67 (fi67 z)) (.leaf 68 (fi68 z))))) (.node 71 (.node 70 (.leaf 69 (fi69 z)) (.leaf 70 (fi70 z))) (.node 72 (.leaf 71 (fi71 z)) (.node 74 (.leaf 72 (fi72 z)) (.leaf 74 (fi74 z)))))))
theorem fok (z : Bool) : FOk Try.prog (fns z).get := fOk_of (t := fns z) (⟨⟨⟨⟨fiOk3 z, fiOk5 z⟩, ⟨fiOk7 z, ⟨fiOk14 z, fiOk15 z⟩⟩⟩, ⟨⟨fiOk16 z, fiOk17 z⟩, ⟨fiOk18 z, ⟨fiOk21 z, fiOk22 z⟩⟩⟩⟩, ⟨⟨⟨fiOk23 z, fiOk28 z⟩, ⟨fiOk34 z, ⟨fiOk67 z, fiOk68 z⟩⟩⟩, ⟨⟨fiOk69 z, fiOk70 z⟩, ⟨fiOk71 z, ⟨fiOk72 z, fiOk74 z⟩⟩⟩⟩⟩)
theorem hmix : Try.prog.follows .mixedOrders = true := by kernel_rfl
end Go.Proofs.TabC
