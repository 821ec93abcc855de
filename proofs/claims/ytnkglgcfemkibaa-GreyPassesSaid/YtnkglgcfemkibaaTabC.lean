/- The table of types and functions, proved to be the code of the program; without conditions. -/
import Derived.Test.YtnkglgcfemkibaaEngMc
import Derived.Test.YtnkglgcfemkibaaProg
import Derived.KernelRfl
set_option linter.all false
set_option linter.deprecated false
set_option autoImplicit false
set_option maxRecDepth 100000
namespace Go.Proofs.TabC
open Go Go.Eng Go.Proofs
noncomputable def ti3 : TI := ⟨.leaf, 1, 8, [.i .i64 0], .int .i64, false, [.int .i64]⟩
theorem tiOk3 : mkTI Try.prog 3 ti3.cmp = { ti3 with kinds := [] } := by kernel_rfl
noncomputable def ti4 : TI := ⟨.leaf, 1, 1, [.b false], .bool, false, [.bool]⟩
theorem tiOk4 : mkTI Try.prog 4 ti4.cmp = { ti4 with kinds := [] } := by kernel_rfl
noncomputable def ti5 : TI := ⟨.leaf, 1, 1, [.i .u8 0], .int .u8, false, [.int .u8]⟩
theorem tiOk5 : mkTI Try.prog 5 ti5.cmp = { ti5 with kinds := [] } := by kernel_rfl
noncomputable def ti9 : TI := ⟨.str, 1, 16, [.s ByteArray.empty], .str, false, [.str]⟩
theorem tiOk9 : mkTI Try.prog 9 ti9.cmp = { ti9 with kinds := [] } := by kernel_rfl
noncomputable def ti22 : TI := ⟨.sl 30, 1, 24, [.v (.slice none 0 0)], .other, false, [.other]⟩
theorem tiOk22 : mkTI Try.prog 22 ti22.cmp = { ti22 with kinds := [] } := by kernel_rfl
noncomputable def ti23 : TI := ⟨.sl 39, 1, 24, [.v (.slice none 0 0)], .other, false, [.other]⟩
theorem tiOk23 : mkTI Try.prog 23 ti23.cmp = { ti23 with kinds := [] } := by kernel_rfl
noncomputable def ti25 : TI := ⟨.st [(0, 22, 1), (1, 23, 1)], 2, 48, [.v (.slice none 0 0), .v (.slice none 0 0)], .other, false, [.other, .other]⟩
theorem tiOk25 : mkTI Try.prog 25 ti25.cmp = { ti25 with kinds := [] } := by kernel_rfl
noncomputable def ti26 : TI := ⟨.leaf, 1, 8, [.v (.pointer none)], .ptr, false, [.other]⟩
theorem tiOk26 : mkTI Try.prog 26 ti26.cmp = { ti26 with kinds := [] } := by kernel_rfl
noncomputable def ti27 : TI := ⟨.leaf, 1, 8, [.i .i64 0], .int .i64, false, [.int .i64]⟩
theorem tiOk27 : mkTI Try.prog 27 ti27.cmp = { ti27 with kinds := [] } := by kernel_rfl
noncomputable def ti30 : TI := ⟨.sl 5, 1, 24, [.v (.slice none 0 0)], .other, false, [.other]⟩
theorem tiOk30 : mkTI Try.prog 30 ti30.cmp = { ti30 with kinds := [] } := by kernel_rfl
noncomputable def ti33 : TI := ⟨.sl 3, 1, 24, [.v (.slice none 0 0)], .other, false, [.other]⟩
theorem tiOk33 : mkTI Try.prog 33 ti33.cmp = { ti33 with kinds := [] } := by kernel_rfl
noncomputable def ti39 : TI := ⟨.st [(0, 3, 1), (1, 3, 1), (2, 3, 1), (3, 3, 1), (4, 30, 1), (5, 33, 1)], 6, 80, [.i .i64 0, .i .i64 0, .i .i64 0, .i .i64 0, .v (.slice none 0 0), .v (.slice none 0 0)], .other, false, [.int .i64, .int .i64, .int .i64, .int .i64, .other, .other]⟩
theorem tiOk39 : mkTI Try.prog 39 ti39.cmp = { ti39 with kinds := [] } := by kernel_rfl
noncomputable def ti63 : TI := ⟨.sl 71, 1, 24, [.v (.slice none 0 0)], .other, false, [.other]⟩
theorem tiOk63 : mkTI Try.prog 63 ti63.cmp = { ti63 with kinds := [] } := by kernel_rfl
noncomputable def ti64 : TI := ⟨.sl 74, 1, 24, [.v (.slice none 0 0)], .other, false, [.other]⟩
theorem tiOk64 : mkTI Try.prog 64 ti64.cmp = { ti64 with kinds := [] } := by kernel_rfl
noncomputable def ti66 : TI := ⟨.st [(0, 63, 1), (1, 64, 1)], 2, 48, [.v (.slice none 0 0), .v (.slice none 0 0)], .other, false, [.other, .other]⟩
theorem tiOk66 : mkTI Try.prog 66 ti66.cmp = { ti66 with kinds := [] } := by kernel_rfl
noncomputable def ti71 : TI := ⟨.st [(0, 9, 1), (1, 3, 1), (2, 3, 1), (3, 4, 1)], 4, 40, [.s ByteArray.empty, .i .i64 0, .i .i64 0, .b false], .other, true, [.str, .int .i64, .int .i64, .bool]⟩
theorem tiOk71 : mkTI Try.prog 71 ti71.cmp = { ti71 with kinds := [] } := by kernel_rfl
noncomputable def ti74 : TI := ⟨.st [(0, 9, 1), (1, 3, 1), (2, 3, 1)], 3, 32, [.s ByteArray.empty, .i .i64 0, .i .i64 0], .other, true, [.str, .int .i64, .int .i64]⟩
theorem tiOk74 : mkTI Try.prog 74 ti74.cmp = { ti74 with kinds := [] } := by kernel_rfl
noncomputable def ti104 : TI := ⟨.sl 112, 1, 24, [.v (.slice none 0 0)], .other, false, [.other]⟩
theorem tiOk104 : mkTI Try.prog 104 ti104.cmp = { ti104 with kinds := [] } := by kernel_rfl
noncomputable def ti106 : TI := ⟨.st [(0, 30, 1), (1, 30, 1), (2, 104, 1)], 3, 72, [.v (.slice none 0 0), .v (.slice none 0 0), .v (.slice none 0 0)], .other, false, [.other, .other, .other]⟩
theorem tiOk106 : mkTI Try.prog 106 ti106.cmp = { ti106 with kinds := [] } := by kernel_rfl
noncomputable def ti107 : TI := ⟨.arr 3 106, 9, 216, [.v (.slice none 0 0), .v (.slice none 0 0), .v (.slice none 0 0), .v (.slice none 0 0), .v (.slice none 0 0), .v (.slice none 0 0), .v (.slice none 0 0), .v (.slice none 0 0), .v (.slice none 0 0)], .other, false, [.other, .other, .other, .other, .other, .other, .other, .other, .other]⟩
theorem tiOk107 : mkTI Try.prog 107 ti107.cmp = { ti107 with kinds := [] } := by kernel_rfl
noncomputable def ti109 : TI := ⟨.st [(0, 107, 9), (9, 4, 1), (10, 4, 1), (11, 3, 1)], 12, 232, [.v (.slice none 0 0), .v (.slice none 0 0), .v (.slice none 0 0), .v (.slice none 0 0), .v (.slice none 0 0), .v (.slice none 0 0), .v (.slice none 0 0), .v (.slice none 0 0), .v (.slice none 0 0), .b false, .b false, .i .i64 0], .other, false, [.other, .other, .other, .other, .other, .other, .other, .other, .other, .bool, .bool, .int .i64]⟩
theorem tiOk109 : mkTI Try.prog 109 ti109.cmp = { ti109 with kinds := [] } := by kernel_rfl
noncomputable def ti112 : TI := ⟨.st [(0, 4, 1), (1, 3, 1), (2, 30, 1)], 3, 40, [.b false, .i .i64 0, .v (.slice none 0 0)], .other, false, [.bool, .int .i64, .other]⟩
theorem tiOk112 : mkTI Try.prog 112 ti112.cmp = { ti112 with kinds := [] } := by kernel_rfl
noncomputable def ti114 : TI := ⟨.leaf, 1, 8, [.i .u64 0], .int .u64, false, [.int .u64]⟩
theorem tiOk114 : mkTI Try.prog 114 ti114.cmp = { ti114 with kinds := [] } := by kernel_rfl
noncomputable def ti137 : TI := ⟨.leaf, 1, 8, [.v .nilFunc], .fnc, false, [.other]⟩
theorem tiOk137 : mkTI Try.prog 137 ti137.cmp = { ti137 with kinds := [] } := by kernel_rfl
noncomputable def ti153 : TI := ⟨.leaf, 1, 8, [.v .nilFunc], .fnc, false, [.other]⟩
theorem tiOk153 : mkTI Try.prog 153 ti153.cmp = { ti153 with kinds := [] } := by kernel_rfl
noncomputable def tts : Tr TI := (.node 63 (.node 25 (.node 9 (.node 4 (.leaf 3 ti3) (.node 5 (.leaf 4 ti4) (.leaf 5 ti5))) (.node 22 (.leaf 9 ti9) (.node 23 (.leaf 22 ti22) (.leaf 23 ti23)))) (.node 30 (.node 26 (.leaf 25 ti25) (.node 27 (.leaf 26 ti26) (.leaf 27 ti27))) (.node 33 (.leaf 30 ti30) (.node 39 (.leaf 33 ti33) (.leaf 39 ti39))))) (.node 106 (.node 71 (.node 64 (.leaf 63 ti63) (.node 66 (.leaf 64 ti64) (.leaf 66 ti66))) (.node 74 (.leaf 71 ti71) (.node 104 (.leaf 74 ti74) (.leaf 104 ti104)))) (.node 112 (.node 107 (.leaf 106 ti106) (.node 109 (.leaf 107 ti107) (.leaf 109 ti109))) (.node 137 (.node 114 (.leaf 112 ti112) (.leaf 114 ti114)) (.node 153 (.leaf 137 ti137) (.leaf 153 ti153))))))
theorem tok : TTok Try.prog (ttOf tts) := ttOk_of (t := tts) (⟨⟨⟨⟨tiOk3, ⟨tiOk4, tiOk5⟩⟩, ⟨tiOk9, ⟨tiOk22, tiOk23⟩⟩⟩, ⟨⟨tiOk25, ⟨tiOk26, tiOk27⟩⟩, ⟨tiOk30, ⟨tiOk33, tiOk39⟩⟩⟩⟩, ⟨⟨⟨tiOk63, ⟨tiOk64, tiOk66⟩⟩, ⟨tiOk71, ⟨tiOk74, tiOk104⟩⟩⟩, ⟨⟨tiOk106, ⟨tiOk107, tiOk109⟩⟩, ⟨⟨tiOk112, tiOk114⟩, ⟨tiOk137, tiOk153⟩⟩⟩⟩⟩)
noncomputable def fi3 (z : Bool) : FI := fiOf Try.f3 ⟨[1, 3, 4, 5, 7], z⟩
theorem fiOk3 (z : Bool) : FIok Try.prog 3 (fi3 z) := fiOk_of _ Try.func3 (by kernel_rfl)
noncomputable def fi5 (z : Bool) : FI := fiOf Try.f5 ⟨[1, 3, 4, 6], z⟩
theorem fiOk5 (z : Bool) : FIok Try.prog 5 (fi5 z) := fiOk_of _ Try.func5 (by kernel_rfl)
noncomputable def fi7 (z : Bool) : FI := fiOf Try.f7 ⟨[1, 3, 4, 7, 11, 14, 15], z⟩
theorem fiOk7 (z : Bool) : FIok Try.prog 7 (fi7 z) := fiOk_of _ Try.func7 (by kernel_rfl)
noncomputable def fi8 (z : Bool) : FI := fiOf Try.f8 ⟨[], z⟩
theorem fiOk8 (z : Bool) : FIok Try.prog 8 (fi8 z) := fiOk_of _ Try.func8 (by kernel_rfl)
noncomputable def fi9 (z : Bool) : FI := fiOf Try.f9 ⟨[1, 3, 4, 5, 6, 9, 10, 11], z⟩
theorem fiOk9 (z : Bool) : FIok Try.prog 9 (fi9 z) := fiOk_of _ Try.func9 (by kernel_rfl)
noncomputable def fi14 (z : Bool) : FI := fiOf Try.f14 ⟨[4, 17, 18, 19], z⟩
theorem fiOk14 (z : Bool) : FIok Try.prog 14 (fi14 z) := fiOk_of _ Try.func14 (by kernel_rfl)
noncomputable def fi15 (z : Bool) : FI := fiOf Try.f15 ⟨[], z⟩
theorem fiOk15 (z : Bool) : FIok Try.prog 15 (fi15 z) := fiOk_of _ Try.func15 (by kernel_rfl)
noncomputable def fi16 (z : Bool) : FI := fiOf Try.f16 ⟨[], z⟩
theorem fiOk16 (z : Bool) : FIok Try.prog 16 (fi16 z) := fiOk_of _ Try.func16 (by kernel_rfl)
noncomputable def fi17 (z : Bool) : FI := fiOf Try.f17 ⟨[0, 4, 5, 7, 8, 9, 14, 39, 40, 41], z⟩
theorem fiOk17 (z : Bool) : FIok Try.prog 17 (fi17 z) := fiOk_of _ Try.func17 (by kernel_rfl)
noncomputable def fi18 (z : Bool) : FI := fiOf Try.f18 ⟨[], z⟩
theorem fiOk18 (z : Bool) : FIok Try.prog 18 (fi18 z) := fiOk_of _ Try.func18 (by kernel_rfl)
noncomputable def fi20 (z : Bool) : FI := fiOf Try.f20 ⟨[], z⟩
theorem fiOk20 (z : Bool) : FIok Try.prog 20 (fi20 z) := fiOk_of _ Try.func20 (by kernel_rfl)
noncomputable def fi21 (z : Bool) : FI := fiOf Try.f21 ⟨[6, 23, 24, 25], z⟩
theorem fiOk21 (z : Bool) : FIok Try.prog 21 (fi21 z) := fiOk_of _ Try.func21 (by kernel_rfl)
noncomputable def fi22 (z : Bool) : FI := fiOf Try.f22 ⟨[], z⟩
theorem fiOk22 (z : Bool) : FIok Try.prog 22 (fi22 z) := fiOk_of _ Try.func22 (by kernel_rfl)
noncomputable def fi23 (z : Bool) : FI := fiOf Try.f23 ⟨[], z⟩
theorem fiOk23 (z : Bool) : FIok Try.prog 23 (fi23 z) := fiOk_of _ Try.func23 (by kernel_rfl)
noncomputable def fi28 (z : Bool) : FI := fiOf Try.f28 ⟨[], z⟩
theorem fiOk28 (z : Bool) : FIok Try.prog 28 (fi28 z) := fiOk_of _ Try.func28 (by kernel_rfl)
noncomputable def fi34 (z : Bool) : FI := fiOf Try.f34 ⟨[], z⟩
theorem fiOk34 (z : Bool) : FIok Try.prog 34 (fi34 z) := fiOk_of _ Try.func34 (by kernel_rfl)
noncomputable def fi42 (z : Bool) : FI := fiOf Try.f42 ⟨[], z⟩
theorem fiOk42 (z : Bool) : FIok Try.prog 42 (fi42 z) := fiOk_of _ Try.func42 (by kernel_rfl)
noncomputable def fi43 (z : Bool) : FI := fiOf Try.f43 ⟨[], z⟩
theorem fiOk43 (z : Bool) : FIok Try.prog 43 (fi43 z) := fiOk_of _ Try.func43 (by kernel_rfl)
noncomputable def fi44 (z : Bool) : FI := fiOf Try.f44 ⟨[], z⟩
theorem fiOk44 (z : Bool) : FIok Try.prog 44 (fi44 z) := fiOk_of _ Try.func44 (by kernel_rfl)
noncomputable def fi67 (z : Bool) : FI := fiOf Try.f67 ⟨[], z⟩
theorem fiOk67 (z : Bool) : FIok Try.prog 67 (fi67 z) := fiOk_of _ Try.func67 (by kernel_rfl)
noncomputable def fi68 (z : Bool) : FI := fiOf Try.f68 ⟨[], z⟩
theorem fiOk68 (z : Bool) : FIok Try.prog 68 (fi68 z) := fiOk_of _ Try.func68 (by kernel_rfl)
noncomputable def fi69 (z : Bool) : FI := fiOf Try.f69 ⟨[], z⟩
theorem fiOk69 (z : Bool) : FIok Try.prog 69 (fi69 z) := fiOk_of _ Try.func69 (by kernel_rfl)
noncomputable def fi70 (z : Bool) : FI := fiOf Try.f70 ⟨[], z⟩
theorem fiOk70 (z : Bool) : FIok Try.prog 70 (fi70 z) := fiOk_of _ Try.func70 (by kernel_rfl)
noncomputable def fi71 (z : Bool) : FI := fiOf Try.f71 ⟨[], z⟩
theorem fiOk71 (z : Bool) : FIok Try.prog 71 (fi71 z) := fiOk_of _ Try.func71 (by kernel_rfl)
noncomputable def fi72 (z : Bool) : FI := fiOf Try.f72 ⟨[], z⟩
theorem fiOk72 (z : Bool) : FIok Try.prog 72 (fi72 z) := fiOk_of _ Try.func72 (by kernel_rfl)
noncomputable def fi74 (z : Bool) : FI := fiOf Try.f74 ⟨[], z⟩
theorem fiOk74 (z : Bool) : FIok Try.prog 74 (fi74 z) := fiOk_of _ Try.func74 (by kernel_rfl)
noncomputable def fi78 (z : Bool) : FI := fiOf Try.f78 ⟨[0, 5, 6, 7], z⟩
theorem fiOk78 (z : Bool) : FIok Try.prog 78 (fi78 z) := fiOk_of _ Try.func78 (by kernel_rfl)
noncomputable def fi79 (z : Bool) : FI := fiOf Try.f79 ⟨[], z⟩
theorem fiOk79 (z : Bool) : FIok Try.prog 79 (fi79 z) := fiOk_of _ Try.func79 (by kernel_rfl)
noncomputable def fi80 (z : Bool) : FI := fiOf Try.f80 ⟨[], z⟩
theorem fiOk80 (z : Bool) : FIok Try.prog 80 (fi80 z) := fiOk_of _ Try.func80 (by kernel_rfl)
noncomputable def fi91 (z : Bool) : FI := fiOf Try.f91 ⟨[0, 1, 5, 6], z⟩
theorem fiOk91 (z : Bool) : FIok Try.prog 91 (fi91 z) := fiOk_of _ Try.func91 (by kernel_rfl)
noncomputable def fi92 (z : Bool) : FI := fiOf Try.f92 ⟨[], z⟩
theorem fiOk92 (z : Bool) : FIok Try.prog 92 (fi92 z) := fiOk_of _ Try.func92 (by kernel_rfl)
noncomputable def fi93 (z : Bool) : FI := fiOf Try.f93 ⟨[], z⟩
theorem fiOk93 (z : Bool) : FIok Try.prog 93 (fi93 z) := fiOk_of _ Try.func93 (by kernel_rfl)
noncomputable def fi94 (z : Bool) : FI := fiOf Try.f94 ⟨[], z⟩
theorem fiOk94 (z : Bool) : FIok Try.prog 94 (fi94 z) := fiOk_of _ Try.func94 (by kernel_rfl)
noncomputable def fi95 (z : Bool) : FI := fiOf Try.f95 ⟨[0, 2, 5, 6, 7], z⟩
theorem fiOk95 (z : Bool) : FIok Try.prog 95 (fi95 z) := fiOk_of _ Try.func95 (by kernel_rfl)
noncomputable def fi96 (z : Bool) : FI := fiOf Try.f96 ⟨[], z⟩
theorem fiOk96 (z : Bool) : FIok Try.prog 96 (fi96 z) := fiOk_of _ Try.func96 (by kernel_rfl)
noncomputable def fi97 (z : Bool) : FI := fiOf Try.f97 ⟨[], z⟩
theorem fiOk97 (z : Bool) : FIok Try.prog 97 (fi97 z) := fiOk_of _ Try.func97 (by kernel_rfl)
noncomputable def fi104 (z : Bool) : FI := fiOf Try.f104 ⟨[0, 1, 7, 8], z⟩
theorem fiOk104 (z : Bool) : FIok Try.prog 104 (fi104 z) := fiOk_of _ Try.func104 (by kernel_rfl)
noncomputable def fi105 (z : Bool) : FI := fiOf Try.f105 ⟨[0, 1, 2, 8, 9, 10], z⟩
theorem fiOk105 (z : Bool) : FIok Try.prog 105 (fi105 z) := fiOk_of _ Try.func105 (by kernel_rfl)
noncomputable def fi106 (z : Bool) : FI := fiOf Try.f106 ⟨[], z⟩
theorem fiOk106 (z : Bool) : FIok Try.prog 106 (fi106 z) := fiOk_of _ Try.func106 (by kernel_rfl)
noncomputable def fi107 (z : Bool) : FI := fiOf Try.f107 ⟨[], z⟩
theorem fiOk107 (z : Bool) : FIok Try.prog 107 (fi107 z) := fiOk_of _ Try.func107 (by kernel_rfl)
noncomputable def fi109 (z : Bool) : FI := fiOf Try.f109 ⟨[], z⟩
theorem fiOk109 (z : Bool) : FIok Try.prog 109 (fi109 z) := fiOk_of _ Try.func109 (by kernel_rfl)
noncomputable def fi111 (z : Bool) : FI := fiOf Try.f111 ⟨[], z⟩
theorem fiOk111 (z : Bool) : FIok Try.prog 111 (fi111 z) := fiOk_of _ Try.func111 (by kernel_rfl)
noncomputable def fi112 (z : Bool) : FI := fiOf Try.f112 ⟨[], z⟩
theorem fiOk112 (z : Bool) : FIok Try.prog 112 (fi112 z) := fiOk_of _ Try.func112 (by kernel_rfl)
noncomputable def fi114 (z : Bool) : FI := fiOf Try.f114 ⟨[0, 2, 3], z⟩
theorem fiOk114 (z : Bool) : FIok Try.prog 114 (fi114 z) := fiOk_of _ Try.func114 (by kernel_rfl)
noncomputable def fns (z : Bool) : Tr FI := (.node 70 (.node 21 (.node 14 (.node 7 (.node 5 (.leaf 3 (fi3 z)) (.leaf 5 (fi5 z))) (.node 8 (.leaf 7 (fi7 z)) (.node 9 (.leaf 8 (fi8 z)) (.leaf 9 (fi9 z))))) (.node 17 (.node 15 (.leaf 14 (fi14 z)) (.node 16 (.leaf 15 (fi15 z)) (.leaf 16 (fi16 z)))) (.node 18 (.leaf 17 (fi17 z)) (.node 20 (.leaf 18 (fi18 z)) (.leaf 20 (fi20 z)))))) (.node 42 (.node 23 (.node 22 (.leaf 21 (fi21 z)) (.leaf 22 (fi22 z))) (.node 28 (.leaf 23 (fi23 z)) (.node 34 (.leaf 28 (fi28 z)) (.leaf 34 (fi34 z))))) (.node 67 (.node 43 (.leaf 42 (fi42 z)) (.node 44 (.leaf 43 (fi43 z)) (.leaf 44 (fi44 z)))) (.node 68 (.leaf 67 (fi67 z)) (.node 69 (.leaf 68 (fi68 z)) (.leaf 69 (fi69 z))))))) (.node 95 (.node 79 (.node 72 (.node 71 (.leaf 70 (fi70 z)) (.leaf 71 (fi71 z))) (.node 74 (.leaf 72 (fi72 z)) (.node 78 (.leaf 74 (fi74 z)) (.leaf 78 (fi78 z))))) (.node 92 (.node 80 (.leaf 79 (fi79 z)) (.node 91 (.leaf 80 (fi80 z)) (.leaf 91 (fi91 z)))) (.node 93 (.leaf 92 (fi92 z)) (.node 94 (.leaf 93 (fi93 z)) (.leaf 94 (fi94 z)))))) (.node 106 (.node 97 (.node 96 (.leaf 95 (fi95 z)) (.leaf 96 (fi96 z))) (.node 104 (.leaf 97 (fi97 z)) (.node 105 (.leaf 104 (fi104 z)) (.leaf 105 (fi105 z))))) (.node 111 (.node 107 (.leaf 106 (fi106 z)) (.node 109 (.leaf 107 (fi107 z)) (.leaf 109 (fi109 z)))) (.node 112 (.leaf 111 (fi111 z)) (.node 114 (.leaf 112 (fi112 z)) (.leaf 114 (fi114 z))))))))
theorem fok (z : Bool) : FOk Try.prog (fns z).get := fOk_of (t := fns z) (⟨⟨⟨⟨⟨fiOk3 z, fiOk5 z⟩, ⟨fiOk7 z, ⟨fiOk8 z, fiOk9 z⟩⟩⟩, ⟨⟨fiOk14 z, ⟨fiOk15 z, fiOk16 z⟩⟩, ⟨fiOk17 z, ⟨fiOk18 z, fiOk20 z⟩⟩⟩⟩, ⟨⟨⟨fiOk21 z, fiOk22 z⟩, ⟨fiOk23 z, ⟨fiOk28 z, fiOk34 z⟩⟩⟩, ⟨⟨fiOk42 z, ⟨fiOk43 z, fiOk44 z⟩⟩, ⟨fiOk67 z, ⟨fiOk68 z, fiOk69 z⟩⟩⟩⟩⟩, ⟨⟨⟨⟨fiOk70 z, fiOk71 z⟩, ⟨fiOk72 z, ⟨fiOk74 z, fiOk78 z⟩⟩⟩, ⟨⟨fiOk79 z, ⟨fiOk80 z, fiOk91 z⟩⟩, ⟨fiOk92 z, ⟨fiOk93 z, fiOk94 z⟩⟩⟩⟩, ⟨⟨⟨fiOk95 z, fiOk96 z⟩, ⟨fiOk97 z, ⟨fiOk104 z, fiOk105 z⟩⟩⟩, ⟨⟨fiOk106 z, ⟨fiOk107 z, fiOk109 z⟩⟩, ⟨fiOk111 z, ⟨fiOk112 z, fiOk114 z⟩⟩⟩⟩⟩⟩)
theorem hmix : Try.prog.follows .mixedOrders = true := by kernel_rfl
end Go.Proofs.TabC
