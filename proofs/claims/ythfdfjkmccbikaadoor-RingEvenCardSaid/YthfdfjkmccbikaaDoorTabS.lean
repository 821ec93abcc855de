/- The table of types and functions, proved to be the code of the program; without conditions. -/
import Derived.Test.YthfdfjkmccbikaaDoorEngMc
import Derived.Test.YthfdfjkmccbikaaDoorProg
import Derived.KernelRfl
set_option linter.all false
set_option linter.deprecated false
set_option autoImplicit false
set_option maxRecDepth 100000
namespace Go.Proofs.TabS
open Go Go.Eng Go.Proofs
noncomputable def ti2 : TI := ⟨.leaf, 1, 8, [.i .i64 0], .int .i64, false, [.int .i64]⟩
theorem tiOk2 : mkTI Tryd.prog 2 ti2.cmp = { ti2 with kinds := [] } := by kernel_rfl
noncomputable def ti3 : TI := ⟨.leaf, 1, 8, [.i .i64 0], .int .i64, false, [.int .i64]⟩
theorem tiOk3 : mkTI Tryd.prog 3 ti3.cmp = { ti3 with kinds := [] } := by kernel_rfl
noncomputable def ti4 : TI := ⟨.leaf, 1, 1, [.b false], .bool, false, [.bool]⟩
theorem tiOk4 : mkTI Tryd.prog 4 ti4.cmp = { ti4 with kinds := [] } := by kernel_rfl
noncomputable def ti5 : TI := ⟨.leaf, 1, 1, [.i .u8 0], .int .u8, false, [.int .u8]⟩
theorem tiOk5 : mkTI Tryd.prog 5 ti5.cmp = { ti5 with kinds := [] } := by kernel_rfl
noncomputable def ti9 : TI := ⟨.str, 1, 16, [.s ByteArray.empty], .str, false, [.str]⟩
theorem tiOk9 : mkTI Tryd.prog 9 ti9.cmp = { ti9 with kinds := [] } := by kernel_rfl
noncomputable def ti21 : TI := ⟨.leaf, 1, 4, [.i .i32 0], .int .i32, false, [.int .i32]⟩
theorem tiOk21 : mkTI Tryd.prog 21 ti21.cmp = { ti21 with kinds := [] } := by kernel_rfl
noncomputable def ti22 : TI := ⟨.sl 3, 1, 24, [.v (.slice none 0 0)], .other, false, [.other]⟩
theorem tiOk22 : mkTI Tryd.prog 22 ti22.cmp = { ti22 with kinds := [] } := by kernel_rfl
noncomputable def ti24 : TI := ⟨.st [(0, 22, 1), (1, 22, 1), (2, 22, 1)], 3, 72, [.v (.slice none 0 0), .v (.slice none 0 0), .v (.slice none 0 0)], .other, false, [.other, .other, .other]⟩
theorem tiOk24 : mkTI Tryd.prog 24 ti24.cmp = { ti24 with kinds := [] } := by kernel_rfl
noncomputable def ti25 : TI := ⟨.sl 33, 1, 24, [.v (.slice none 0 0)], .other, false, [.other]⟩
theorem tiOk25 : mkTI Tryd.prog 25 ti25.cmp = { ti25 with kinds := [] } := by kernel_rfl
noncomputable def ti26 : TI := ⟨.leaf, 1, 8, [.v (.float .f64 0)], .flt, false, [.flt]⟩
theorem tiOk26 : mkTI Tryd.prog 26 ti26.cmp = { ti26 with kinds := [] } := by kernel_rfl
noncomputable def ti28 : TI := ⟨.st [(0, 25, 1), (1, 9, 1), (2, 3, 1), (3, 3, 1), (4, 22, 1), (5, 3, 1), (6, 3, 1), (7, 26, 1)], 8, 104, [.v (.slice none 0 0), .s ByteArray.empty, .i .i64 0, .i .i64 0, .v (.slice none 0 0), .i .i64 0, .i .i64 0, .v (.float .f64 0)], .other, false, [.other, .str, .int .i64, .int .i64, .other, .int .i64, .int .i64, .flt]⟩
theorem tiOk28 : mkTI Tryd.prog 28 ti28.cmp = { ti28 with kinds := [] } := by kernel_rfl
noncomputable def ti31 : TI := ⟨.st [(0, 3, 1), (1, 3, 1), (2, 3, 1), (3, 3, 1), (4, 3, 1)], 5, 40, [.i .i64 0, .i .i64 0, .i .i64 0, .i .i64 0, .i .i64 0], .other, true, [.int .i64, .int .i64, .int .i64, .int .i64, .int .i64]⟩
theorem tiOk31 : mkTI Tryd.prog 31 ti31.cmp = { ti31 with kinds := [] } := by kernel_rfl
noncomputable def ti33 : TI := ⟨.st [(0, 9, 1), (1, 3, 1), (2, 3, 1), (3, 3, 1), (4, 31, 5), (9, 4, 1)], 10, 88, [.s ByteArray.empty, .i .i64 0, .i .i64 0, .i .i64 0, .i .i64 0, .i .i64 0, .i .i64 0, .i .i64 0, .i .i64 0, .b false], .other, true, [.str, .int .i64, .int .i64, .int .i64, .int .i64, .int .i64, .int .i64, .int .i64, .int .i64, .bool]⟩
theorem tiOk33 : mkTI Tryd.prog 33 ti33.cmp = { ti33 with kinds := [] } := by kernel_rfl
noncomputable def ti34 : TI := ⟨.sl 38, 1, 24, [.v (.slice none 0 0)], .other, false, [.other]⟩
theorem tiOk34 : mkTI Tryd.prog 34 ti34.cmp = { ti34 with kinds := [] } := by kernel_rfl
noncomputable def ti36 : TI := ⟨.sl 5, 1, 24, [.v (.slice none 0 0)], .other, false, [.other]⟩
theorem tiOk36 : mkTI Tryd.prog 36 ti36.cmp = { ti36 with kinds := [] } := by kernel_rfl
noncomputable def ti38 : TI := ⟨.st [(0, 3, 1), (1, 3, 1), (2, 9, 1), (3, 22, 1)], 4, 56, [.i .i64 0, .i .i64 0, .s ByteArray.empty, .v (.slice none 0 0)], .other, false, [.int .i64, .int .i64, .str, .other]⟩
theorem tiOk38 : mkTI Tryd.prog 38 ti38.cmp = { ti38 with kinds := [] } := by kernel_rfl
noncomputable def ti39 : TI := ⟨.sl 52, 1, 24, [.v (.slice none 0 0)], .other, false, [.other]⟩
theorem tiOk39 : mkTI Tryd.prog 39 ti39.cmp = { ti39 with kinds := [] } := by kernel_rfl
noncomputable def ti41 : TI := ⟨.st [(0, 39, 1), (1, 3, 1)], 2, 32, [.v (.slice none 0 0), .i .i64 0], .other, false, [.other, .int .i64]⟩
theorem tiOk41 : mkTI Tryd.prog 41 ti41.cmp = { ti41 with kinds := [] } := by kernel_rfl
noncomputable def ti42 : TI := ⟨.leaf, 1, 8, [.i .i64 0], .int .i64, false, [.int .i64]⟩
theorem tiOk42 : mkTI Tryd.prog 42 ti42.cmp = { ti42 with kinds := [] } := by kernel_rfl
noncomputable def ti50 : TI := ⟨.sl 77, 1, 24, [.v (.slice none 0 0)], .other, false, [.other]⟩
theorem tiOk50 : mkTI Tryd.prog 50 ti50.cmp = { ti50 with kinds := [] } := by kernel_rfl
noncomputable def ti52 : TI := ⟨.st [(0, 3, 1), (1, 3, 1), (2, 50, 1)], 3, 40, [.i .i64 0, .i .i64 0, .v (.slice none 0 0)], .other, false, [.int .i64, .int .i64, .other]⟩
theorem tiOk52 : mkTI Tryd.prog 52 ti52.cmp = { ti52 with kinds := [] } := by kernel_rfl
noncomputable def ti54 : TI := ⟨.leaf, 1, 8, [.i .u64 0], .int .u64, false, [.int .u64]⟩
theorem tiOk54 : mkTI Tryd.prog 54 ti54.cmp = { ti54 with kinds := [] } := by kernel_rfl
noncomputable def ti62 : TI := ⟨.leaf, 1, 8, [.i .u64 0], .int .u64, false, [.int .u64]⟩
theorem tiOk62 : mkTI Tryd.prog 62 ti62.cmp = { ti62 with kinds := [] } := by kernel_rfl
noncomputable def ti63 : TI := ⟨.leaf, 1, 8, [.v (.map none)], .mp, false, [.other]⟩
theorem tiOk63 : mkTI Tryd.prog 63 ti63.cmp = { ti63 with kinds := [] } := by kernel_rfl
noncomputable def ti66 : TI := ⟨.leaf, 1, 8, [.v .nilFunc], .fnc, false, [.other]⟩
theorem tiOk66 : mkTI Tryd.prog 66 ti66.cmp = { ti66 with kinds := [] } := by kernel_rfl
noncomputable def ti70 : TI := ⟨.leaf, 1, 8, [.v (.map none)], .mp, false, [.other]⟩
theorem tiOk70 : mkTI Tryd.prog 70 ti70.cmp = { ti70 with kinds := [] } := by kernel_rfl
noncomputable def ti72 : TI := ⟨.st [(0, 3, 1), (1, 9, 1)], 2, 24, [.i .i64 0, .s ByteArray.empty], .other, true, [.int .i64, .str]⟩
theorem tiOk72 : mkTI Tryd.prog 72 ti72.cmp = { ti72 with kinds := [] } := by kernel_rfl
noncomputable def ti74 : TI := ⟨.leaf, 1, 8, [.v (.pointer none)], .ptr, false, [.other]⟩
theorem tiOk74 : mkTI Tryd.prog 74 ti74.cmp = { ti74 with kinds := [] } := by kernel_rfl
noncomputable def ti77 : TI := ⟨.st [(0, 9, 1), (1, 3, 1)], 2, 24, [.s ByteArray.empty, .i .i64 0], .other, true, [.str, .int .i64]⟩
theorem tiOk77 : mkTI Tryd.prog 77 ti77.cmp = { ti77 with kinds := [] } := by kernel_rfl
noncomputable def ti79 : TI := ⟨.leaf, 1, 8, [.v .nilFunc], .fnc, false, [.other]⟩
theorem tiOk79 : mkTI Tryd.prog 79 ti79.cmp = { ti79 with kinds := [] } := by kernel_rfl
noncomputable def ti88 : TI := ⟨.leaf, 1, 8, [.v .nilFunc], .fnc, false, [.other]⟩
theorem tiOk88 : mkTI Tryd.prog 88 ti88.cmp = { ti88 with kinds := [] } := by kernel_rfl
noncomputable def ti94 : TI := ⟨.leaf, 1, 8, [.v .nilFunc], .fnc, false, [.other]⟩
theorem tiOk94 : mkTI Tryd.prog 94 ti94.cmp = { ti94 with kinds := [] } := by kernel_rfl
noncomputable def ti98 : TI := ⟨.sl 9, 1, 24, [.v (.slice none 0 0)], .other, false, [.other]⟩
theorem tiOk98 : mkTI Tryd.prog 98 ti98.cmp = { ti98 with kinds := [] } := by kernel_rfl
noncomputable def ti101 : TI := ⟨.ifc, 1, 16, [.v .nilIface], .other, false, [.other]⟩
theorem tiOk101 : mkTI Tryd.prog 101 ti101.cmp = { ti101 with kinds := [] } := by kernel_rfl
noncomputable def ti113 : TI := ⟨.leaf, 1, 8, [.i .i64 0], .int .i64, false, [.int .i64]⟩
theorem tiOk113 : mkTI Tryd.prog 113 ti113.cmp = { ti113 with kinds := [] } := by kernel_rfl
noncomputable def ti116 : TI := ⟨.leaf, 1, 8, [.v (.pointer none)], .ptr, false, [.other]⟩
theorem tiOk116 : mkTI Tryd.prog 116 ti116.cmp = { ti116 with kinds := [] } := by kernel_rfl
noncomputable def ti126 : TI := ⟨.st [(0, 9, 1), (1, 9, 1), (2, 101, 1)], 3, 48, [.s ByteArray.empty, .s ByteArray.empty, .v .nilIface], .other, false, [.str, .str, .other]⟩
theorem tiOk126 : mkTI Tryd.prog 126 ti126.cmp = { ti126 with kinds := [] } := by kernel_rfl
noncomputable def ti128 : TI := ⟨.arr 24 5, 24, 24, [.i .u8 0, .i .u8 0, .i .u8 0, .i .u8 0, .i .u8 0, .i .u8 0, .i .u8 0, .i .u8 0, .i .u8 0, .i .u8 0, .i .u8 0, .i .u8 0, .i .u8 0, .i .u8 0, .i .u8 0, .i .u8 0, .i .u8 0, .i .u8 0, .i .u8 0, .i .u8 0, .i .u8 0, .i .u8 0, .i .u8 0, .i .u8 0], .other, false, [.int .u8, .int .u8, .int .u8, .int .u8, .int .u8, .int .u8, .int .u8, .int .u8, .int .u8, .int .u8, .int .u8, .int .u8, .int .u8, .int .u8, .int .u8, .int .u8, .int .u8, .int .u8, .int .u8, .int .u8, .int .u8, .int .u8, .int .u8, .int .u8]⟩
theorem tiOk128 : mkTI Tryd.prog 128 ti128.cmp = { ti128 with kinds := [] } := by kernel_rfl
noncomputable def ti133 : TI := ⟨.arr 256 5, 256, 256, [.i .u8 0, .i .u8 0, .i .u8 0, .i .u8 0, .i .u8 0, .i .u8 0, .i .u8 0, .i .u8 0, .i .u8 0, .i .u8 0, .i .u8 0, .i .u8 0, .i .u8 0, .i .u8 0, .i .u8 0, .i .u8 0, .i .u8 0, .i .u8 0, .i .u8 0, .i .u8 0, .i .u8 0, .i .u8 0, .i .u8 0, .i .u8 0, .i .u8 0, .i .u8 0, .i .u8 0, .i .u8 0, .i .u8 0, .i .u8 0, .i .u8 0, .i .u8 0, .i .u8 0, .i .u8 0, .i .u8 0, .i .u8 0, .i .u8 0, .i .u8 0, .i .u8 0, .i .u8 0, .i .u8 0, .i .u8 0, .i .u8 0, .i .u8 0, .i .u8 0, .i .u8 0, .i .u8 0, .i .u8 0, .i .u8 0, .i .u8 0, .i .u8 0, .i .u8 0, .i .u8 0, .i .u8 0, .i .u8 0, .i .u8 0, .i .u8 0, .i .u8 0, .i .u8 0, .i .u8 0, .i .u8 0, .i .u8 0, .i .u8 0, .i .u8 0, .i .u8 0, .i .u8 0, .i .u8 0, .i .u8 0, .i .u8 0, .i .u8 0, .i .u8 0, .i .u8 0, .i .u8 0, .i .u8 0, .i .u8 0, .i .u8 0, .i .u8 0, .i .u8 0, .i .u8 0, .i .u8 0, .i .u8 0, .i .u8 0, .i .u8 0, .i .u8 0, .i .u8 0, .i .u8 0, .i .u8 0, .i .u8 0, .i .u8 0, .i .u8 0, .i .u8 0, .i .u8 0, .i .u8 0, .i .u8 0, .i .u8 0, .i .u8 0, .i .u8 0, .i .u8 0, .i .u8 0, .i .u8 0, .i .u8 0, .i .u8 0, .i .u8 0, .i .u8 0, .i .u8 0, .i .u8 0, .i .u8 0, .i .u8 0, .i .u8 0, .i .u8 0, .i .u8 0, .i .u8 0, .i .u8 0, .i .u8 0, .i .u8 0, .i .u8 0, .i .u8 0, .i .u8 0, .i .u8 0, .i .u8 0, .i .u8 0, .i .u8 0, .i .u8 0, .i .u8 0, .i .u8 0, .i .u8 0, .i .u8 0, .i .u8 0, .i .u8 0, .i .u8 0, .i .u8 0, .i .u8 0, .i .u8 0, .i .u8 0, .i .u8 0, .i .u8 0, .i .u8 0, .i .u8 0, .i .u8 0, .i .u8 0, .i .u8 0, .i .u8 0, .i .u8 0, .i .u8 0, .i .u8 0, .i .u8 0, .i .u8 0, .i .u8 0, .i .u8 0, .i .u8 0, .i .u8 0, .i .u8 0, .i .u8 0, .i .u8 0, .i .u8 0, .i .u8 0, .i .u8 0, .i .u8 0, .i .u8 0, .i .u8 0, .i .u8 0, .i .u8 0, .i .u8 0, .i .u8 0, .i .u8 0, .i .u8 0, .i .u8 0, .i .u8 0, .i .u8 0, .i .u8 0, .i .u8 0, .i .u8 0, .i .u8 0, .i .u8 0, .i .u8 0, .i .u8 0, .i .u8 0, .i .u8 0, .i .u8 0, .i .u8 0, .i .u8 0, .i .u8 0, .i .u8 0, .i .u8 0, .i .u8 0, .i .u8 0, .i .u8 0, .i .u8 0, .i .u8 0, .i .u8 0, .i .u8 0, .i .u8 0, .i .u8 0, .i .u8 0, .i .u8 0, .i .u8 0, .i .u8 0, .i .u8 0, .i .u8 0, .i .u8 0, .i .u8 0, .i .u8 0, .i .u8 0, .i .u8 0, .i .u8 0, .i .u8 0, .i .u8 0, .i .u8 0, .i .u8 0, .i .u8 0, .i .u8 0, .i .u8 0, .i .u8 0, .i .u8 0, .i .u8 0, .i .u8 0, .i .u8 0, .i .u8 0, .i .u8 0, .i .u8 0, .i .u8 0, .i .u8 0, .i .u8 0, .i .u8 0, .i .u8 0, .i .u8 0, .i .u8 0, .i .u8 0, .i .u8 0, .i .u8 0, .i .u8 0, .i .u8 0, .i .u8 0, .i .u8 0, .i .u8 0, .i .u8 0, .i .u8 0, .i .u8 0, .i .u8 0, .i .u8 0, .i .u8 0, .i .u8 0, .i .u8 0, .i .u8 0, .i .u8 0, .i .u8 0, .i .u8 0, .i .u8 0, .i .u8 0, .i .u8 0, .i .u8 0, .i .u8 0, .i .u8 0, .i .u8 0, .i .u8 0, .i .u8 0], .other, false, [.int .u8, .int .u8, .int .u8, .int .u8, .int .u8, .int .u8, .int .u8, .int .u8, .int .u8, .int .u8, .int .u8, .int .u8, .int .u8, .int .u8, .int .u8, .int .u8, .int .u8, .int .u8, .int .u8, .int .u8, .int .u8, .int .u8, .int .u8, .int .u8, .int .u8, .int .u8, .int .u8, .int .u8, .int .u8, .int .u8, .int .u8, .int .u8, .int .u8, .int .u8, .int .u8, .int .u8, .int .u8, .int .u8, .int .u8, .int .u8, .int .u8, .int .u8, .int .u8, .int .u8, .int .u8, .int .u8, .int .u8, .int .u8, .int .u8, .int .u8, .int .u8, .int .u8, .int .u8, .int .u8, .int .u8, .int .u8, .int .u8, .int .u8, .int .u8, .int .u8, .int .u8, .int .u8, .int .u8, .int .u8, .int .u8, .int .u8, .int .u8, .int .u8, .int .u8, .int .u8, .int .u8, .int .u8, .int .u8, .int .u8, .int .u8, .int .u8, .int .u8, .int .u8, .int .u8, .int .u8, .int .u8, .int .u8, .int .u8, .int .u8, .int .u8, .int .u8, .int .u8, .int .u8, .int .u8, .int .u8, .int .u8, .int .u8, .int .u8, .int .u8, .int .u8, .int .u8, .int .u8, .int .u8, .int .u8, .int .u8, .int .u8, .int .u8, .int .u8, .int .u8, .int .u8, .int .u8, .int .u8, .int .u8, .int .u8, .int .u8, .int .u8, .int .u8, .int .u8, .int .u8, .int .u8, .int .u8, .int .u8, .int .u8, .int .u8, .int .u8, .int .u8, .int .u8, .int .u8, .int .u8, .int .u8, .int .u8, .int .u8, .int .u8, .int .u8, .int .u8, .int .u8, .int .u8, .int .u8, .int .u8, .int .u8, .int .u8, .int .u8, .int .u8, .int .u8, .int .u8, .int .u8, .int .u8, .int .u8, .int .u8, .int .u8, .int .u8, .int .u8, .int .u8, .int .u8, .int .u8, .int .u8, .int .u8, .int .u8, .int .u8, .int .u8, .int .u8, .int .u8, .int .u8, .int .u8, .int .u8, .int .u8, .int .u8, .int .u8, .int .u8, .int .u8, .int .u8, .int .u8, .int .u8, .int .u8, .int .u8, .int .u8, .int .u8, .int .u8, .int .u8, .int .u8, .int .u8, .int .u8, .int .u8, .int .u8, .int .u8, .int .u8, .int .u8, .int .u8, .int .u8, .int .u8, .int .u8, .int .u8, .int .u8, .int .u8, .int .u8, .int .u8, .int .u8, .int .u8, .int .u8, .int .u8, .int .u8, .int .u8, .int .u8, .int .u8, .int .u8, .int .u8, .int .u8, .int .u8, .int .u8, .int .u8, .int .u8, .int .u8, .int .u8, .int .u8, .int .u8, .int .u8, .int .u8, .int .u8, .int .u8, .int .u8, .int .u8, .int .u8, .int .u8, .int .u8, .int .u8, .int .u8, .int .u8, .int .u8, .int .u8, .int .u8, .int .u8, .int .u8, .int .u8, .int .u8, .int .u8, .int .u8, .int .u8, .int .u8, .int .u8, .int .u8, .int .u8, .int .u8, .int .u8, .int .u8, .int .u8, .int .u8, .int .u8, .int .u8, .int .u8, .int .u8, .int .u8, .int .u8, .int .u8, .int .u8, .int .u8, .int .u8, .int .u8, .int .u8, .int .u8, .int .u8, .int .u8]⟩
theorem tiOk133 : mkTI Tryd.prog 133 ti133.cmp = { ti133 with kinds := [] } := by kernel_rfl
noncomputable def ti135 : TI := ⟨.st [(0, 5, 1), (1, 5, 1)], 2, 2, [.i .u8 0, .i .u8 0], .other, true, [.int .u8, .int .u8]⟩
theorem tiOk135 : mkTI Tryd.prog 135 ti135.cmp = { ti135 with kinds := [] } := by kernel_rfl
noncomputable def ti136 : TI := ⟨.arr 16 135, 32, 32, [.i .u8 0, .i .u8 0, .i .u8 0, .i .u8 0, .i .u8 0, .i .u8 0, .i .u8 0, .i .u8 0, .i .u8 0, .i .u8 0, .i .u8 0, .i .u8 0, .i .u8 0, .i .u8 0, .i .u8 0, .i .u8 0, .i .u8 0, .i .u8 0, .i .u8 0, .i .u8 0, .i .u8 0, .i .u8 0, .i .u8 0, .i .u8 0, .i .u8 0, .i .u8 0, .i .u8 0, .i .u8 0, .i .u8 0, .i .u8 0, .i .u8 0, .i .u8 0], .other, false, [.int .u8, .int .u8, .int .u8, .int .u8, .int .u8, .int .u8, .int .u8, .int .u8, .int .u8, .int .u8, .int .u8, .int .u8, .int .u8, .int .u8, .int .u8, .int .u8, .int .u8, .int .u8, .int .u8, .int .u8, .int .u8, .int .u8, .int .u8, .int .u8, .int .u8, .int .u8, .int .u8, .int .u8, .int .u8, .int .u8, .int .u8, .int .u8]⟩
theorem tiOk136 : mkTI Tryd.prog 136 ti136.cmp = { ti136 with kinds := [] } := by kernel_rfl
noncomputable def ti139 : TI := ⟨.leaf, 1, 8, [.v (.pointer none)], .ptr, false, [.other]⟩
theorem tiOk139 : mkTI Tryd.prog 139 ti139.cmp = { ti139 with kinds := [] } := by kernel_rfl
noncomputable def ti140 : TI := ⟨.leaf, 1, 8, [.v (.pointer none)], .ptr, false, [.other]⟩
theorem tiOk140 : mkTI Tryd.prog 140 ti140.cmp = { ti140 with kinds := [] } := by kernel_rfl
noncomputable def ti142 : TI := ⟨.st [(0, 9, 1)], 1, 16, [.s ByteArray.empty], .other, true, [.str]⟩
theorem tiOk142 : mkTI Tryd.prog 142 ti142.cmp = { ti142 with kinds := [] } := by kernel_rfl
noncomputable def ti144 : TI := ⟨.arr 20 62, 20, 160, [.i .u64 0, .i .u64 0, .i .u64 0, .i .u64 0, .i .u64 0, .i .u64 0, .i .u64 0, .i .u64 0, .i .u64 0, .i .u64 0, .i .u64 0, .i .u64 0, .i .u64 0, .i .u64 0, .i .u64 0, .i .u64 0, .i .u64 0, .i .u64 0, .i .u64 0, .i .u64 0], .other, false, [.int .u64, .int .u64, .int .u64, .int .u64, .int .u64, .int .u64, .int .u64, .int .u64, .int .u64, .int .u64, .int .u64, .int .u64, .int .u64, .int .u64, .int .u64, .int .u64, .int .u64, .int .u64, .int .u64, .int .u64]⟩
theorem tiOk144 : mkTI Tryd.prog 144 ti144.cmp = { ti144 with kinds := [] } := by kernel_rfl
noncomputable def ti145 : TI := ⟨.leaf, 1, 4, [.i .u32 0], .int .u32, false, [.int .u32]⟩
theorem tiOk145 : mkTI Tryd.prog 145 ti145.cmp = { ti145 with kinds := [] } := by kernel_rfl
noncomputable def ti146 : TI := ⟨.arr 65 5, 65, 65, [.i .u8 0, .i .u8 0, .i .u8 0, .i .u8 0, .i .u8 0, .i .u8 0, .i .u8 0, .i .u8 0, .i .u8 0, .i .u8 0, .i .u8 0, .i .u8 0, .i .u8 0, .i .u8 0, .i .u8 0, .i .u8 0, .i .u8 0, .i .u8 0, .i .u8 0, .i .u8 0, .i .u8 0, .i .u8 0, .i .u8 0, .i .u8 0, .i .u8 0, .i .u8 0, .i .u8 0, .i .u8 0, .i .u8 0, .i .u8 0, .i .u8 0, .i .u8 0, .i .u8 0, .i .u8 0, .i .u8 0, .i .u8 0, .i .u8 0, .i .u8 0, .i .u8 0, .i .u8 0, .i .u8 0, .i .u8 0, .i .u8 0, .i .u8 0, .i .u8 0, .i .u8 0, .i .u8 0, .i .u8 0, .i .u8 0, .i .u8 0, .i .u8 0, .i .u8 0, .i .u8 0, .i .u8 0, .i .u8 0, .i .u8 0, .i .u8 0, .i .u8 0, .i .u8 0, .i .u8 0, .i .u8 0, .i .u8 0, .i .u8 0, .i .u8 0, .i .u8 0], .other, false, [.int .u8, .int .u8, .int .u8, .int .u8, .int .u8, .int .u8, .int .u8, .int .u8, .int .u8, .int .u8, .int .u8, .int .u8, .int .u8, .int .u8, .int .u8, .int .u8, .int .u8, .int .u8, .int .u8, .int .u8, .int .u8, .int .u8, .int .u8, .int .u8, .int .u8, .int .u8, .int .u8, .int .u8, .int .u8, .int .u8, .int .u8, .int .u8, .int .u8, .int .u8, .int .u8, .int .u8, .int .u8, .int .u8, .int .u8, .int .u8, .int .u8, .int .u8, .int .u8, .int .u8, .int .u8, .int .u8, .int .u8, .int .u8, .int .u8, .int .u8, .int .u8, .int .u8, .int .u8, .int .u8, .int .u8, .int .u8, .int .u8, .int .u8, .int .u8, .int .u8, .int .u8, .int .u8, .int .u8, .int .u8, .int .u8]⟩
theorem tiOk146 : mkTI Tryd.prog 146 ti146.cmp = { ti146 with kinds := [] } := by kernel_rfl
noncomputable def ti152 : TI := ⟨.arr 32 5, 32, 32, [.i .u8 0, .i .u8 0, .i .u8 0, .i .u8 0, .i .u8 0, .i .u8 0, .i .u8 0, .i .u8 0, .i .u8 0, .i .u8 0, .i .u8 0, .i .u8 0, .i .u8 0, .i .u8 0, .i .u8 0, .i .u8 0, .i .u8 0, .i .u8 0, .i .u8 0, .i .u8 0, .i .u8 0, .i .u8 0, .i .u8 0, .i .u8 0, .i .u8 0, .i .u8 0, .i .u8 0, .i .u8 0, .i .u8 0, .i .u8 0, .i .u8 0, .i .u8 0], .other, false, [.int .u8, .int .u8, .int .u8, .int .u8, .int .u8, .int .u8, .int .u8, .int .u8, .int .u8, .int .u8, .int .u8, .int .u8, .int .u8, .int .u8, .int .u8, .int .u8, .int .u8, .int .u8, .int .u8, .int .u8, .int .u8, .int .u8, .int .u8, .int .u8, .int .u8, .int .u8, .int .u8, .int .u8, .int .u8, .int .u8, .int .u8, .int .u8]⟩
theorem tiOk152 : mkTI Tryd.prog 152 ti152.cmp = { ti152 with kinds := [] } := by kernel_rfl
noncomputable def ti153 : TI := ⟨.arr 64 5, 64, 64, [.i .u8 0, .i .u8 0, .i .u8 0, .i .u8 0, .i .u8 0, .i .u8 0, .i .u8 0, .i .u8 0, .i .u8 0, .i .u8 0, .i .u8 0, .i .u8 0, .i .u8 0, .i .u8 0, .i .u8 0, .i .u8 0, .i .u8 0, .i .u8 0, .i .u8 0, .i .u8 0, .i .u8 0, .i .u8 0, .i .u8 0, .i .u8 0, .i .u8 0, .i .u8 0, .i .u8 0, .i .u8 0, .i .u8 0, .i .u8 0, .i .u8 0, .i .u8 0, .i .u8 0, .i .u8 0, .i .u8 0, .i .u8 0, .i .u8 0, .i .u8 0, .i .u8 0, .i .u8 0, .i .u8 0, .i .u8 0, .i .u8 0, .i .u8 0, .i .u8 0, .i .u8 0, .i .u8 0, .i .u8 0, .i .u8 0, .i .u8 0, .i .u8 0, .i .u8 0, .i .u8 0, .i .u8 0, .i .u8 0, .i .u8 0, .i .u8 0, .i .u8 0, .i .u8 0, .i .u8 0, .i .u8 0, .i .u8 0, .i .u8 0, .i .u8 0], .other, false, [.int .u8, .int .u8, .int .u8, .int .u8, .int .u8, .int .u8, .int .u8, .int .u8, .int .u8, .int .u8, .int .u8, .int .u8, .int .u8, .int .u8, .int .u8, .int .u8, .int .u8, .int .u8, .int .u8, .int .u8, .int .u8, .int .u8, .int .u8, .int .u8, .int .u8, .int .u8, .int .u8, .int .u8, .int .u8, .int .u8, .int .u8, .int .u8, .int .u8, .int .u8, .int .u8, .int .u8, .int .u8, .int .u8, .int .u8, .int .u8, .int .u8, .int .u8, .int .u8, .int .u8, .int .u8, .int .u8, .int .u8, .int .u8, .int .u8, .int .u8, .int .u8, .int .u8, .int .u8, .int .u8, .int .u8, .int .u8, .int .u8, .int .u8, .int .u8, .int .u8, .int .u8, .int .u8, .int .u8, .int .u8]⟩
theorem tiOk153 : mkTI Tryd.prog 153 ti153.cmp = { ti153 with kinds := [] } := by kernel_rfl
noncomputable def tts : Tr TI := (.node 66 (.node 33 (.node 22 (.node 5 (.node 3 (.leaf 2 ti2) (.node 4 (.leaf 3 ti3) (.leaf 4 ti4))) (.node 9 (.leaf 5 ti5) (.node 21 (.leaf 9 ti9) (.leaf 21 ti21)))) (.node 26 (.node 24 (.leaf 22 ti22) (.node 25 (.leaf 24 ti24) (.leaf 25 ti25))) (.node 28 (.leaf 26 ti26) (.node 31 (.leaf 28 ti28) (.leaf 31 ti31))))) (.node 42 (.node 38 (.node 34 (.leaf 33 ti33) (.node 36 (.leaf 34 ti34) (.leaf 36 ti36))) (.node 39 (.leaf 38 ti38) (.node 41 (.leaf 39 ti39) (.leaf 41 ti41)))) (.node 54 (.node 50 (.leaf 42 ti42) (.node 52 (.leaf 50 ti50) (.leaf 52 ti52))) (.node 62 (.leaf 54 ti54) (.node 63 (.leaf 62 ti62) (.leaf 63 ti63)))))) (.node 126 (.node 88 (.node 74 (.node 70 (.leaf 66 ti66) (.node 72 (.leaf 70 ti70) (.leaf 72 ti72))) (.node 77 (.leaf 74 ti74) (.node 79 (.leaf 77 ti77) (.leaf 79 ti79)))) (.node 101 (.node 94 (.leaf 88 ti88) (.node 98 (.leaf 94 ti94) (.leaf 98 ti98))) (.node 113 (.leaf 101 ti101) (.node 116 (.leaf 113 ti113) (.leaf 116 ti116))))) (.node 140 (.node 135 (.node 128 (.leaf 126 ti126) (.node 133 (.leaf 128 ti128) (.leaf 133 ti133))) (.node 136 (.leaf 135 ti135) (.node 139 (.leaf 136 ti136) (.leaf 139 ti139)))) (.node 145 (.node 142 (.leaf 140 ti140) (.node 144 (.leaf 142 ti142) (.leaf 144 ti144))) (.node 152 (.node 146 (.leaf 145 ti145) (.leaf 146 ti146)) (.node 153 (.leaf 152 ti152) (.leaf 153 ti153)))))))
theorem tok : TTok Tryd.prog (ttOf tts) := ttOk_of (t := tts) (⟨⟨⟨⟨⟨tiOk2, ⟨tiOk3, tiOk4⟩⟩, ⟨tiOk5, ⟨tiOk9, tiOk21⟩⟩⟩, ⟨⟨tiOk22, ⟨tiOk24, tiOk25⟩⟩, ⟨tiOk26, ⟨tiOk28, tiOk31⟩⟩⟩⟩, ⟨⟨⟨tiOk33, ⟨tiOk34, tiOk36⟩⟩, ⟨tiOk38, ⟨tiOk39, tiOk41⟩⟩⟩, ⟨⟨tiOk42, ⟨tiOk50, tiOk52⟩⟩, ⟨tiOk54, ⟨tiOk62, tiOk63⟩⟩⟩⟩⟩, ⟨⟨⟨⟨tiOk66, ⟨tiOk70, tiOk72⟩⟩, ⟨tiOk74, ⟨tiOk77, tiOk79⟩⟩⟩, ⟨⟨tiOk88, ⟨tiOk94, tiOk98⟩⟩, ⟨tiOk101, ⟨tiOk113, tiOk116⟩⟩⟩⟩, ⟨⟨⟨tiOk126, ⟨tiOk128, tiOk133⟩⟩, ⟨tiOk135, ⟨tiOk136, tiOk139⟩⟩⟩, ⟨⟨tiOk140, ⟨tiOk142, tiOk144⟩⟩, ⟨⟨tiOk145, tiOk146⟩, ⟨tiOk152, tiOk153⟩⟩⟩⟩⟩⟩)
noncomputable def fi3 (z : Bool) : FI := fiOf Tryd.f3 ⟨[3, 4, 5, 6, 7, 8, 9, 10, 12], z⟩
theorem fiOk3 (z : Bool) : FIok Tryd.prog 3 (fi3 z) := fiOk_of _ Tryd.func3 (by kernel_rfl)
noncomputable def fi4 (z : Bool) : FI := fiOf Tryd.f4 ⟨[1, 3, 4, 6, 7, 8, 9, 10, 11, 12], z⟩
theorem fiOk4 (z : Bool) : FIok Tryd.prog 4 (fi4 z) := fiOk_of _ Tryd.func4 (by kernel_rfl)
noncomputable def fi5 (z : Bool) : FI := fiOf Tryd.f5 ⟨[], z⟩
theorem fiOk5 (z : Bool) : FIok Tryd.prog 5 (fi5 z) := fiOk_of _ Tryd.func5 (by kernel_rfl)
noncomputable def fi6 (z : Bool) : FI := fiOf Tryd.f6 ⟨[], z⟩
theorem fiOk6 (z : Bool) : FIok Tryd.prog 6 (fi6 z) := fiOk_of _ Tryd.func6 (by kernel_rfl)
noncomputable def fi7 (z : Bool) : FI := fiOf Tryd.f7 ⟨[2, 4, 12, 13], z⟩
theorem fiOk7 (z : Bool) : FIok Tryd.prog 7 (fi7 z) := fiOk_of _ Tryd.func7 (by kernel_rfl)
noncomputable def fi8 (z : Bool) : FI := fiOf Tryd.f8 ⟨[], z⟩
theorem fiOk8 (z : Bool) : FIok Tryd.prog 8 (fi8 z) := fiOk_of _ Tryd.func8 (by kernel_rfl)
noncomputable def fi9 (z : Bool) : FI := fiOf Tryd.f9 ⟨[], z⟩
theorem fiOk9 (z : Bool) : FIok Tryd.prog 9 (fi9 z) := fiOk_of _ Tryd.func9 (by kernel_rfl)
noncomputable def fi10 (z : Bool) : FI := fiOf Tryd.f10 ⟨[], z⟩
theorem fiOk10 (z : Bool) : FIok Tryd.prog 10 (fi10 z) := fiOk_of _ Tryd.func10 (by kernel_rfl)
noncomputable def fi11 (z : Bool) : FI := fiOf Tryd.f11 ⟨[], z⟩
theorem fiOk11 (z : Bool) : FIok Tryd.prog 11 (fi11 z) := fiOk_of _ Tryd.func11 (by kernel_rfl)
noncomputable def fi12 (z : Bool) : FI := fiOf Tryd.f12 ⟨[1, 3, 8, 9, 10], z⟩
theorem fiOk12 (z : Bool) : FIok Tryd.prog 12 (fi12 z) := fiOk_of _ Tryd.func12 (by kernel_rfl)
noncomputable def fi13 (z : Bool) : FI := fiOf Tryd.f13 ⟨[25, 26, 27], z⟩
theorem fiOk13 (z : Bool) : FIok Tryd.prog 13 (fi13 z) := fiOk_of _ Tryd.func13 (by kernel_rfl)
noncomputable def fi14 (z : Bool) : FI := fiOf Tryd.f14 ⟨[2, 3, 7, 8, 22, 23, 24], z⟩
theorem fiOk14 (z : Bool) : FIok Tryd.prog 14 (fi14 z) := fiOk_of _ Tryd.func14 (by kernel_rfl)
noncomputable def fi15 (z : Bool) : FI := fiOf Tryd.f15 ⟨[2, 3, 4, 15, 16, 33, 34, 35, 66, 67], z⟩
theorem fiOk15 (z : Bool) : FIok Tryd.prog 15 (fi15 z) := fiOk_of _ Tryd.func15 (by kernel_rfl)
noncomputable def fi16 (z : Bool) : FI := fiOf Tryd.f16 ⟨[2, 3, 4, 5, 8], z⟩
theorem fiOk16 (z : Bool) : FIok Tryd.prog 16 (fi16 z) := fiOk_of _ Tryd.func16 (by kernel_rfl)
noncomputable def fi18 (z : Bool) : FI := fiOf Tryd.f18 ⟨[], z⟩
theorem fiOk18 (z : Bool) : FIok Tryd.prog 18 (fi18 z) := fiOk_of _ Tryd.func18 (by kernel_rfl)
noncomputable def fi19 (z : Bool) : FI := fiOf Tryd.f19 ⟨[], z⟩
theorem fiOk19 (z : Bool) : FIok Tryd.prog 19 (fi19 z) := fiOk_of _ Tryd.func19 (by kernel_rfl)
noncomputable def fi20 (z : Bool) : FI := fiOf Tryd.f20 ⟨[], z⟩
theorem fiOk20 (z : Bool) : FIok Tryd.prog 20 (fi20 z) := fiOk_of _ Tryd.func20 (by kernel_rfl)
noncomputable def fi21 (z : Bool) : FI := fiOf Tryd.f21 ⟨[], z⟩
theorem fiOk21 (z : Bool) : FIok Tryd.prog 21 (fi21 z) := fiOk_of _ Tryd.func21 (by kernel_rfl)
noncomputable def fi22 (z : Bool) : FI := fiOf Tryd.f22 ⟨[0, 3, 4], z⟩
theorem fiOk22 (z : Bool) : FIok Tryd.prog 22 (fi22 z) := fiOk_of _ Tryd.func22 (by kernel_rfl)
noncomputable def fi23 (z : Bool) : FI := fiOf Tryd.f23 ⟨[], z⟩
theorem fiOk23 (z : Bool) : FIok Tryd.prog 23 (fi23 z) := fiOk_of _ Tryd.func23 (by kernel_rfl)
noncomputable def fi24 (z : Bool) : FI := fiOf Tryd.f24 ⟨[1, 2, 5, 10, 11, 12], z⟩
theorem fiOk24 (z : Bool) : FIok Tryd.prog 24 (fi24 z) := fiOk_of _ Tryd.func24 (by kernel_rfl)
noncomputable def fi26 (z : Bool) : FI := fiOf Tryd.f26 ⟨[1, 2, 10, 11], z⟩
theorem fiOk26 (z : Bool) : FIok Tryd.prog 26 (fi26 z) := fiOk_of _ Tryd.func26 (by kernel_rfl)
noncomputable def fi27 (z : Bool) : FI := fiOf Tryd.f27 ⟨[0, 1, 5, 6], z⟩
theorem fiOk27 (z : Bool) : FIok Tryd.prog 27 (fi27 z) := fiOk_of _ Tryd.func27 (by kernel_rfl)
noncomputable def fi28 (z : Bool) : FI := fiOf Tryd.f28 ⟨[], z⟩
theorem fiOk28 (z : Bool) : FIok Tryd.prog 28 (fi28 z) := fiOk_of _ Tryd.func28 (by kernel_rfl)
noncomputable def fi29 (z : Bool) : FI := fiOf Tryd.f29 ⟨[], z⟩
theorem fiOk29 (z : Bool) : FIok Tryd.prog 29 (fi29 z) := fiOk_of _ Tryd.func29 (by kernel_rfl)
noncomputable def fi30 (z : Bool) : FI := fiOf Tryd.f30 ⟨[], z⟩
theorem fiOk30 (z : Bool) : FIok Tryd.prog 30 (fi30 z) := fiOk_of _ Tryd.func30 (by kernel_rfl)
noncomputable def fi31 (z : Bool) : FI := fiOf Tryd.f31 ⟨[], z⟩
theorem fiOk31 (z : Bool) : FIok Tryd.prog 31 (fi31 z) := fiOk_of _ Tryd.func31 (by kernel_rfl)
noncomputable def fi32 (z : Bool) : FI := fiOf Tryd.f32 ⟨[2, 3, 4, 7, 8, 12, 13, 48, 49], z⟩
theorem fiOk32 (z : Bool) : FIok Tryd.prog 32 (fi32 z) := fiOk_of _ Tryd.func32 (by kernel_rfl)
noncomputable def fi33 (z : Bool) : FI := fiOf Tryd.f33 ⟨[2, 3, 4, 9, 10, 11, 17, 18, 19, 25, 26, 27], z⟩
theorem fiOk33 (z : Bool) : FIok Tryd.prog 33 (fi33 z) := fiOk_of _ Tryd.func33 (by kernel_rfl)
noncomputable def fi34 (z : Bool) : FI := fiOf Tryd.f34 ⟨[1, 2, 3, 9, 44, 45], z⟩
theorem fiOk34 (z : Bool) : FIok Tryd.prog 34 (fi34 z) := fiOk_of _ Tryd.func34 (by kernel_rfl)
noncomputable def fi35 (z : Bool) : FI := fiOf Tryd.f35 ⟨[0, 5, 6], z⟩
theorem fiOk35 (z : Bool) : FIok Tryd.prog 35 (fi35 z) := fiOk_of _ Tryd.func35 (by kernel_rfl)
noncomputable def fi36 (z : Bool) : FI := fiOf Tryd.f36 ⟨[], z⟩
theorem fiOk36 (z : Bool) : FIok Tryd.prog 36 (fi36 z) := fiOk_of _ Tryd.func36 (by kernel_rfl)
noncomputable def fi37 (z : Bool) : FI := fiOf Tryd.f37 ⟨[], z⟩
theorem fiOk37 (z : Bool) : FIok Tryd.prog 37 (fi37 z) := fiOk_of _ Tryd.func37 (by kernel_rfl)
noncomputable def fi38 (z : Bool) : FI := fiOf Tryd.f38 ⟨[], z⟩
theorem fiOk38 (z : Bool) : FIok Tryd.prog 38 (fi38 z) := fiOk_of _ Tryd.func38 (by kernel_rfl)
noncomputable def fi39 (z : Bool) : FI := fiOf Tryd.f39 ⟨[0, 3, 4], z⟩
theorem fiOk39 (z : Bool) : FIok Tryd.prog 39 (fi39 z) := fiOk_of _ Tryd.func39 (by kernel_rfl)
noncomputable def fi40 (z : Bool) : FI := fiOf Tryd.f40 ⟨[], z⟩
theorem fiOk40 (z : Bool) : FIok Tryd.prog 40 (fi40 z) := fiOk_of _ Tryd.func40 (by kernel_rfl)
noncomputable def fi41 (z : Bool) : FI := fiOf Tryd.f41 ⟨[3, 10, 11, 12], z⟩
theorem fiOk41 (z : Bool) : FIok Tryd.prog 41 (fi41 z) := fiOk_of _ Tryd.func41 (by kernel_rfl)
noncomputable def fi42 (z : Bool) : FI := fiOf Tryd.f42 ⟨[], z⟩
theorem fiOk42 (z : Bool) : FIok Tryd.prog 42 (fi42 z) := fiOk_of _ Tryd.func42 (by kernel_rfl)
noncomputable def fi43 (z : Bool) : FI := fiOf Tryd.f43 ⟨[0, 5, 6], z⟩
theorem fiOk43 (z : Bool) : FIok Tryd.prog 43 (fi43 z) := fiOk_of _ Tryd.func43 (by kernel_rfl)
noncomputable def fi44 (z : Bool) : FI := fiOf Tryd.f44 ⟨[], z⟩
theorem fiOk44 (z : Bool) : FIok Tryd.prog 44 (fi44 z) := fiOk_of _ Tryd.func44 (by kernel_rfl)
noncomputable def fi45 (z : Bool) : FI := fiOf Tryd.f45 ⟨[], z⟩
theorem fiOk45 (z : Bool) : FIok Tryd.prog 45 (fi45 z) := fiOk_of _ Tryd.func45 (by kernel_rfl)
noncomputable def fi46 (z : Bool) : FI := fiOf Tryd.f46 ⟨[0, 1, 7, 8], z⟩
theorem fiOk46 (z : Bool) : FIok Tryd.prog 46 (fi46 z) := fiOk_of _ Tryd.func46 (by kernel_rfl)
noncomputable def fi47 (z : Bool) : FI := fiOf Tryd.f47 ⟨[0, 1, 7, 8], z⟩
theorem fiOk47 (z : Bool) : FIok Tryd.prog 47 (fi47 z) := fiOk_of _ Tryd.func47 (by kernel_rfl)
noncomputable def fi48 (z : Bool) : FI := fiOf Tryd.f48 ⟨[], z⟩
theorem fiOk48 (z : Bool) : FIok Tryd.prog 48 (fi48 z) := fiOk_of _ Tryd.func48 (by kernel_rfl)
noncomputable def fi49 (z : Bool) : FI := fiOf Tryd.f49 ⟨[], z⟩
theorem fiOk49 (z : Bool) : FIok Tryd.prog 49 (fi49 z) := fiOk_of _ Tryd.func49 (by kernel_rfl)
noncomputable def fi50 (z : Bool) : FI := fiOf Tryd.f50 ⟨[], z⟩
theorem fiOk50 (z : Bool) : FIok Tryd.prog 50 (fi50 z) := fiOk_of _ Tryd.func50 (by kernel_rfl)
noncomputable def fi51 (z : Bool) : FI := fiOf Tryd.f51 ⟨[], z⟩
theorem fiOk51 (z : Bool) : FIok Tryd.prog 51 (fi51 z) := fiOk_of _ Tryd.func51 (by kernel_rfl)
noncomputable def fi52 (z : Bool) : FI := fiOf Tryd.f52 ⟨[], z⟩
theorem fiOk52 (z : Bool) : FIok Tryd.prog 52 (fi52 z) := fiOk_of _ Tryd.func52 (by kernel_rfl)
noncomputable def fi53 (z : Bool) : FI := fiOf Tryd.f53 ⟨[], z⟩
theorem fiOk53 (z : Bool) : FIok Tryd.prog 53 (fi53 z) := fiOk_of _ Tryd.func53 (by kernel_rfl)
noncomputable def fi54 (z : Bool) : FI := fiOf Tryd.f54 ⟨[], z⟩
theorem fiOk54 (z : Bool) : FIok Tryd.prog 54 (fi54 z) := fiOk_of _ Tryd.func54 (by kernel_rfl)
noncomputable def fi55 (z : Bool) : FI := fiOf Tryd.f55 ⟨[], z⟩
theorem fiOk55 (z : Bool) : FIok Tryd.prog 55 (fi55 z) := fiOk_of _ Tryd.func55 (by kernel_rfl)
noncomputable def fi56 (z : Bool) : FI := fiOf Tryd.f56 ⟨[], z⟩
theorem fiOk56 (z : Bool) : FIok Tryd.prog 56 (fi56 z) := fiOk_of _ Tryd.func56 (by kernel_rfl)
noncomputable def fi57 (z : Bool) : FI := fiOf Tryd.f57 ⟨[], z⟩
theorem fiOk57 (z : Bool) : FIok Tryd.prog 57 (fi57 z) := fiOk_of _ Tryd.func57 (by kernel_rfl)
noncomputable def fi58 (z : Bool) : FI := fiOf Tryd.f58 ⟨[], z⟩
theorem fiOk58 (z : Bool) : FIok Tryd.prog 58 (fi58 z) := fiOk_of _ Tryd.func58 (by kernel_rfl)
noncomputable def fi59 (z : Bool) : FI := fiOf Tryd.f59 ⟨[], z⟩
theorem fiOk59 (z : Bool) : FIok Tryd.prog 59 (fi59 z) := fiOk_of _ Tryd.func59 (by kernel_rfl)
noncomputable def fi60 (z : Bool) : FI := fiOf Tryd.f60 ⟨[0, 1, 2, 3, 9, 10], z⟩
theorem fiOk60 (z : Bool) : FIok Tryd.prog 60 (fi60 z) := fiOk_of _ Tryd.func60 (by kernel_rfl)
noncomputable def fi61 (z : Bool) : FI := fiOf Tryd.f61 ⟨[5, 6, 47, 48, 49], z⟩
theorem fiOk61 (z : Bool) : FIok Tryd.prog 61 (fi61 z) := fiOk_of _ Tryd.func61 (by kernel_rfl)
noncomputable def fi62 (z : Bool) : FI := fiOf Tryd.f62 ⟨[], z⟩
theorem fiOk62 (z : Bool) : FIok Tryd.prog 62 (fi62 z) := fiOk_of _ Tryd.func62 (by kernel_rfl)
noncomputable def fi63 (z : Bool) : FI := fiOf Tryd.f63 ⟨[], z⟩
theorem fiOk63 (z : Bool) : FIok Tryd.prog 63 (fi63 z) := fiOk_of _ Tryd.func63 (by kernel_rfl)
noncomputable def fi65 (z : Bool) : FI := fiOf Tryd.f65 ⟨[], z⟩
theorem fiOk65 (z : Bool) : FIok Tryd.prog 65 (fi65 z) := fiOk_of _ Tryd.func65 (by kernel_rfl)
noncomputable def fi66 (z : Bool) : FI := fiOf Tryd.f66 ⟨[], z⟩
theorem fiOk66 (z : Bool) : FIok Tryd.prog 66 (fi66 z) := fiOk_of _ Tryd.func66 (by kernel_rfl)
noncomputable def fi67 (z : Bool) : FI := fiOf Tryd.f67 ⟨[0, 1, 6, 7], z⟩
theorem fiOk67 (z : Bool) : FIok Tryd.prog 67 (fi67 z) := fiOk_of _ Tryd.func67 (by kernel_rfl)
noncomputable def fi68 (z : Bool) : FI := fiOf Tryd.f68 ⟨[0, 1, 5], z⟩
theorem fiOk68 (z : Bool) : FIok Tryd.prog 68 (fi68 z) := fiOk_of _ Tryd.func68 (by kernel_rfl)
noncomputable def fi69 (z : Bool) : FI := fiOf Tryd.f69 ⟨[], z⟩
theorem fiOk69 (z : Bool) : FIok Tryd.prog 69 (fi69 z) := fiOk_of _ Tryd.func69 (by kernel_rfl)
noncomputable def fi70 (z : Bool) : FI := fiOf Tryd.f70 ⟨[], z⟩
theorem fiOk70 (z : Bool) : FIok Tryd.prog 70 (fi70 z) := fiOk_of _ Tryd.func70 (by kernel_rfl)
noncomputable def fi71 (z : Bool) : FI := fiOf Tryd.f71 ⟨[], z⟩
theorem fiOk71 (z : Bool) : FIok Tryd.prog 71 (fi71 z) := fiOk_of _ Tryd.func71 (by kernel_rfl)
noncomputable def fi72 (z : Bool) : FI := fiOf Tryd.f72 ⟨[], z⟩
theorem fiOk72 (z : Bool) : FIok Tryd.prog 72 (fi72 z) := fiOk_of _ Tryd.func72 (by kernel_rfl)
noncomputable def fi73 (z : Bool) : FI := fiOf Tryd.f73 ⟨[], z⟩
theorem fiOk73 (z : Bool) : FIok Tryd.prog 73 (fi73 z) := fiOk_of _ Tryd.func73 (by kernel_rfl)
noncomputable def fi74 (z : Bool) : FI := fiOf Tryd.f74 ⟨[], z⟩
theorem fiOk74 (z : Bool) : FIok Tryd.prog 74 (fi74 z) := fiOk_of _ Tryd.func74 (by kernel_rfl)
noncomputable def fi75 (z : Bool) : FI := fiOf Tryd.f75 ⟨[], z⟩
theorem fiOk75 (z : Bool) : FIok Tryd.prog 75 (fi75 z) := fiOk_of _ Tryd.func75 (by kernel_rfl)
noncomputable def fi76 (z : Bool) : FI := fiOf Tryd.f76 ⟨[0, 1, 5, 6, 7, 8, 9, 10], z⟩
theorem fiOk76 (z : Bool) : FIok Tryd.prog 76 (fi76 z) := fiOk_of _ Tryd.func76 (by kernel_rfl)
noncomputable def fi77 (z : Bool) : FI := fiOf Tryd.f77 ⟨[2, 4], z⟩
theorem fiOk77 (z : Bool) : FIok Tryd.prog 77 (fi77 z) := fiOk_of _ Tryd.func77 (by kernel_rfl)
noncomputable def fi79 (z : Bool) : FI := fiOf Tryd.f79 ⟨[1, 8, 9, 10, 11, 12, 13, 99, 100, 101], z⟩
theorem fiOk79 (z : Bool) : FIok Tryd.prog 79 (fi79 z) := fiOk_of _ Tryd.func79 (by kernel_rfl)
noncomputable def fi80 (z : Bool) : FI := fiOf Tryd.f80 ⟨[], z⟩
theorem fiOk80 (z : Bool) : FIok Tryd.prog 80 (fi80 z) := fiOk_of _ Tryd.func80 (by kernel_rfl)
noncomputable def fi81 (z : Bool) : FI := fiOf Tryd.f81 ⟨[], z⟩
theorem fiOk81 (z : Bool) : FIok Tryd.prog 81 (fi81 z) := fiOk_of _ Tryd.func81 (by kernel_rfl)
noncomputable def fi82 (z : Bool) : FI := fiOf Tryd.f82 ⟨[], z⟩
theorem fiOk82 (z : Bool) : FIok Tryd.prog 82 (fi82 z) := fiOk_of _ Tryd.func82 (by kernel_rfl)
noncomputable def fi83 (z : Bool) : FI := fiOf Tryd.f83 ⟨[], z⟩
theorem fiOk83 (z : Bool) : FIok Tryd.prog 83 (fi83 z) := fiOk_of _ Tryd.func83 (by kernel_rfl)
noncomputable def fi84 (z : Bool) : FI := fiOf Tryd.f84 ⟨[0, 1, 4], z⟩
theorem fiOk84 (z : Bool) : FIok Tryd.prog 84 (fi84 z) := fiOk_of _ Tryd.func84 (by kernel_rfl)
noncomputable def fi85 (z : Bool) : FI := fiOf Tryd.f85 ⟨[0, 1, 3, 4, 10, 11, 12, 13, 14, 15, 16, 17], z⟩
theorem fiOk85 (z : Bool) : FIok Tryd.prog 85 (fi85 z) := fiOk_of _ Tryd.func85 (by kernel_rfl)
noncomputable def fi86 (z : Bool) : FI := fiOf Tryd.f86 ⟨[], z⟩
theorem fiOk86 (z : Bool) : FIok Tryd.prog 86 (fi86 z) := fiOk_of _ Tryd.func86 (by kernel_rfl)
noncomputable def fi88 (z : Bool) : FI := fiOf Tryd.f88 ⟨[], z⟩
theorem fiOk88 (z : Bool) : FIok Tryd.prog 88 (fi88 z) := fiOk_of _ Tryd.func88 (by kernel_rfl)
noncomputable def fi89 (z : Bool) : FI := fiOf Tryd.f89 ⟨[0, 1, 5, 6, 7, 8, 9, 10], z⟩
theorem fiOk89 (z : Bool) : FIok Tryd.prog 89 (fi89 z) := fiOk_of _ Tryd.func89 (by kernel_rfl)
noncomputable def fi90 (z : Bool) : FI := fiOf Tryd.f90 ⟨[], z⟩
theorem fiOk90 (z : Bool) : FIok Tryd.prog 90 (fi90 z) := fiOk_of _ Tryd.func90 (by kernel_rfl)
noncomputable def fi91 (z : Bool) : FI := fiOf Tryd.f91 ⟨[0, 3, 4, 5], z⟩
theorem fiOk91 (z : Bool) : FIok Tryd.prog 91 (fi91 z) := fiOk_of _ Tryd.func91 (by kernel_rfl)
noncomputable def fi92 (z : Bool) : FI := fiOf Tryd.f92 ⟨[], z⟩
theorem fiOk92 (z : Bool) : FIok Tryd.prog 92 (fi92 z) := fiOk_of _ Tryd.func92 (by kernel_rfl)
noncomputable def fi93 (z : Bool) : FI := fiOf Tryd.f93 ⟨[], z⟩
theorem fiOk93 (z : Bool) : FIok Tryd.prog 93 (fi93 z) := fiOk_of _ Tryd.func93 (by kernel_rfl)
noncomputable def fi94 (z : Bool) : FI := fiOf Tryd.f94 ⟨[], z⟩
theorem fiOk94 (z : Bool) : FIok Tryd.prog 94 (fi94 z) := fiOk_of _ Tryd.func94 (by kernel_rfl)
noncomputable def fi95 (z : Bool) : FI := fiOf Tryd.f95 ⟨[], z⟩
theorem fiOk95 (z : Bool) : FIok Tryd.prog 95 (fi95 z) := fiOk_of _ Tryd.func95 (by kernel_rfl)
noncomputable def fi96 (z : Bool) : FI := fiOf Tryd.f96 ⟨[], z⟩
theorem fiOk96 (z : Bool) : FIok Tryd.prog 96 (fi96 z) := fiOk_of _ Tryd.func96 (by kernel_rfl)
noncomputable def fi98 (z : Bool) : FI := fiOf Tryd.f98 ⟨[0, 4, 5, 6, 7, 8], z⟩
theorem fiOk98 (z : Bool) : FIok Tryd.prog 98 (fi98 z) := fiOk_of _ Tryd.func98 (by kernel_rfl)
noncomputable def fi99 (z : Bool) : FI := fiOf Tryd.f99 ⟨[], z⟩
theorem fiOk99 (z : Bool) : FIok Tryd.prog 99 (fi99 z) := fiOk_of _ Tryd.func99 (by kernel_rfl)
noncomputable def fi100 (z : Bool) : FI := fiOf Tryd.f100 ⟨[], z⟩
theorem fiOk100 (z : Bool) : FIok Tryd.prog 100 (fi100 z) := fiOk_of _ Tryd.func100 (by kernel_rfl)
noncomputable def fns (z : Bool) : Tr FI := (.node 51 (.node 28 (.node 14 (.node 8 (.node 5 (.node 4 (.leaf 3 (fi3 z)) (.leaf 4 (fi4 z))) (.node 6 (.leaf 5 (fi5 z)) (.node 7 (.leaf 6 (fi6 z)) (.leaf 7 (fi7 z))))) (.node 11 (.node 9 (.leaf 8 (fi8 z)) (.node 10 (.leaf 9 (fi9 z)) (.leaf 10 (fi10 z)))) (.node 12 (.leaf 11 (fi11 z)) (.node 13 (.leaf 12 (fi12 z)) (.leaf 13 (fi13 z)))))) (.node 21 (.node 18 (.node 15 (.leaf 14 (fi14 z)) (.node 16 (.leaf 15 (fi15 z)) (.leaf 16 (fi16 z)))) (.node 19 (.leaf 18 (fi18 z)) (.node 20 (.leaf 19 (fi19 z)) (.leaf 20 (fi20 z))))) (.node 24 (.node 22 (.leaf 21 (fi21 z)) (.node 23 (.leaf 22 (fi22 z)) (.leaf 23 (fi23 z)))) (.node 26 (.leaf 24 (fi24 z)) (.node 27 (.leaf 26 (fi26 z)) (.leaf 27 (fi27 z))))))) (.node 39 (.node 33 (.node 30 (.node 29 (.leaf 28 (fi28 z)) (.leaf 29 (fi29 z))) (.node 31 (.leaf 30 (fi30 z)) (.node 32 (.leaf 31 (fi31 z)) (.leaf 32 (fi32 z))))) (.node 36 (.node 34 (.leaf 33 (fi33 z)) (.node 35 (.leaf 34 (fi34 z)) (.leaf 35 (fi35 z)))) (.node 37 (.leaf 36 (fi36 z)) (.node 38 (.leaf 37 (fi37 z)) (.leaf 38 (fi38 z)))))) (.node 45 (.node 42 (.node 40 (.leaf 39 (fi39 z)) (.node 41 (.leaf 40 (fi40 z)) (.leaf 41 (fi41 z)))) (.node 43 (.leaf 42 (fi42 z)) (.node 44 (.leaf 43 (fi43 z)) (.leaf 44 (fi44 z))))) (.node 48 (.node 46 (.leaf 45 (fi45 z)) (.node 47 (.leaf 46 (fi46 z)) (.leaf 47 (fi47 z)))) (.node 49 (.leaf 48 (fi48 z)) (.node 50 (.leaf 49 (fi49 z)) (.leaf 50 (fi50 z)))))))) (.node 75 (.node 62 (.node 56 (.node 53 (.node 52 (.leaf 51 (fi51 z)) (.leaf 52 (fi52 z))) (.node 54 (.leaf 53 (fi53 z)) (.node 55 (.leaf 54 (fi54 z)) (.leaf 55 (fi55 z))))) (.node 59 (.node 57 (.leaf 56 (fi56 z)) (.node 58 (.leaf 57 (fi57 z)) (.leaf 58 (fi58 z)))) (.node 60 (.leaf 59 (fi59 z)) (.node 61 (.leaf 60 (fi60 z)) (.leaf 61 (fi61 z)))))) (.node 69 (.node 66 (.node 63 (.leaf 62 (fi62 z)) (.node 65 (.leaf 63 (fi63 z)) (.leaf 65 (fi65 z)))) (.node 67 (.leaf 66 (fi66 z)) (.node 68 (.leaf 67 (fi67 z)) (.leaf 68 (fi68 z))))) (.node 72 (.node 70 (.leaf 69 (fi69 z)) (.node 71 (.leaf 70 (fi70 z)) (.leaf 71 (fi71 z)))) (.node 73 (.leaf 72 (fi72 z)) (.node 74 (.leaf 73 (fi73 z)) (.leaf 74 (fi74 z))))))) (.node 88 (.node 81 (.node 77 (.node 76 (.leaf 75 (fi75 z)) (.leaf 76 (fi76 z))) (.node 79 (.leaf 77 (fi77 z)) (.node 80 (.leaf 79 (fi79 z)) (.leaf 80 (fi80 z))))) (.node 84 (.node 82 (.leaf 81 (fi81 z)) (.node 83 (.leaf 82 (fi82 z)) (.leaf 83 (fi83 z)))) (.node 85 (.leaf 84 (fi84 z)) (.node 86 (.leaf 85 (fi85 z)) (.leaf 86 (fi86 z)))))) (.node 94 (.node 91 (.node 89 (.leaf 88 (fi88 z)) (.node 90 (.leaf 89 (fi89 z)) (.leaf 90 (fi90 z)))) (.node 92 (.leaf 91 (fi91 z)) (.node 93 (.leaf 92 (fi92 z)) (.leaf 93 (fi93 z))))) (.node 98 (.node 95 (.leaf 94 (fi94 z)) (.node 96 (.leaf 95 (fi95 z)) (.leaf 96 (fi96 z)))) (.node 99 (.leaf 98 (fi98 z)) (.node 100 (.leaf 99 (fi99 z)) (.leaf 100 (fi100 z)))))))))
theorem fok (z : Bool) : FOk Tryd.prog (fns z).get := fOk_of (t := fns z) (⟨⟨⟨⟨⟨⟨fiOk3 z, fiOk4 z⟩, ⟨fiOk5 z, ⟨fiOk6 z, fiOk7 z⟩⟩⟩, ⟨⟨fiOk8 z, ⟨fiOk9 z, fiOk10 z⟩⟩, ⟨fiOk11 z, ⟨fiOk12 z, fiOk13 z⟩⟩⟩⟩, ⟨⟨⟨fiOk14 z, ⟨fiOk15 z, fiOk16 z⟩⟩, ⟨fiOk18 z, ⟨fiOk19 z, fiOk20 z⟩⟩⟩, ⟨⟨fiOk21 z, ⟨fiOk22 z, fiOk23 z⟩⟩, ⟨fiOk24 z, ⟨fiOk26 z, fiOk27 z⟩⟩⟩⟩⟩, ⟨⟨⟨⟨fiOk28 z, fiOk29 z⟩, ⟨fiOk30 z, ⟨fiOk31 z, fiOk32 z⟩⟩⟩, ⟨⟨fiOk33 z, ⟨fiOk34 z, fiOk35 z⟩⟩, ⟨fiOk36 z, ⟨fiOk37 z, fiOk38 z⟩⟩⟩⟩, ⟨⟨⟨fiOk39 z, ⟨fiOk40 z, fiOk41 z⟩⟩, ⟨fiOk42 z, ⟨fiOk43 z, fiOk44 z⟩⟩⟩, ⟨⟨fiOk45 z, ⟨fiOk46 z, fiOk47 z⟩⟩, ⟨fiOk48 z, ⟨fiOk49 z, fiOk50 z⟩⟩⟩⟩⟩⟩, ⟨⟨⟨⟨⟨fiOk51 z, fiOk52 z⟩, ⟨fiOk53 z, ⟨fiOk54 z, fiOk55 z⟩⟩⟩, ⟨⟨fiOk56 z, ⟨fiOk57 z, fiOk58 z⟩⟩, ⟨fiOk59 z, ⟨fiOk60 z, fiOk61 z⟩⟩⟩⟩, ⟨⟨⟨fiOk62 z, ⟨fiOk63 z, fiOk65 z⟩⟩, ⟨fiOk66 z, ⟨fiOk67 z, fiOk68 z⟩⟩⟩, ⟨⟨fiOk69 z, ⟨fiOk70 z, fiOk71 z⟩⟩, ⟨fiOk72 z, ⟨fiOk73 z, fiOk74 z⟩⟩⟩⟩⟩, ⟨⟨⟨⟨fiOk75 z, fiOk76 z⟩, ⟨fiOk77 z, ⟨fiOk79 z, fiOk80 z⟩⟩⟩, ⟨⟨fiOk81 z, ⟨fiOk82 z, fiOk83 z⟩⟩, ⟨fiOk84 z, ⟨fiOk85 z, fiOk86 z⟩⟩⟩⟩, ⟨⟨⟨fiOk88 z, ⟨fiOk89 z, fiOk90 z⟩⟩, ⟨fiOk91 z, ⟨fiOk92 z, fiOk93 z⟩⟩⟩, ⟨⟨fiOk94 z, ⟨fiOk95 z, fiOk96 z⟩⟩, ⟨fiOk98 z, ⟨fiOk99 z, fiOk100 z⟩⟩⟩⟩⟩⟩⟩)
theorem hmix : Tryd.prog.follows .mixedOrders = true := by kernel_rfl
end Go.Proofs.TabS
