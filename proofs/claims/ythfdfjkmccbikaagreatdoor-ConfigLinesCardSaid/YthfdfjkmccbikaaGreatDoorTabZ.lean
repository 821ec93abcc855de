/- The table of types and functions, proved to be the code of the program; without conditions. -/
import Derived.Test.YthfdfjkmccbikaaGreatDoorEngMd
import Derived.Test.YthfdfjkmccbikaaGreatDoorProg
import Derived.KernelRfl
set_option linter.all false
set_option linter.deprecated false
set_option autoImplicit false
set_option maxRecDepth 100000
namespace Go.Proofs.TabZ
open Go Go.Eng Go.Proofs
noncomputable def ti2 : TI := ⟨.leaf, 1, 8, [.i .i64 0], .int .i64, false, [.int .i64]⟩
theorem tiOk2 : mkTI Tryz.prog 2 ti2.cmp = { ti2 with kinds := [] } := by kernel_rfl
noncomputable def ti3 : TI := ⟨.leaf, 1, 8, [.i .i64 0], .int .i64, false, [.int .i64]⟩
theorem tiOk3 : mkTI Tryz.prog 3 ti3.cmp = { ti3 with kinds := [] } := by kernel_rfl
noncomputable def ti4 : TI := ⟨.leaf, 1, 1, [.b false], .bool, false, [.bool]⟩
theorem tiOk4 : mkTI Tryz.prog 4 ti4.cmp = { ti4 with kinds := [] } := by kernel_rfl
noncomputable def ti5 : TI := ⟨.leaf, 1, 1, [.i .u8 0], .int .u8, false, [.int .u8]⟩
theorem tiOk5 : mkTI Tryz.prog 5 ti5.cmp = { ti5 with kinds := [] } := by kernel_rfl
noncomputable def ti9 : TI := ⟨.str, 1, 16, [.s ByteArray.empty], .str, false, [.str]⟩
theorem tiOk9 : mkTI Tryz.prog 9 ti9.cmp = { ti9 with kinds := [] } := by kernel_rfl
noncomputable def ti20 : TI := ⟨.ifc, 1, 16, [.v .nilIface], .other, false, [.other]⟩
theorem tiOk20 : mkTI Tryz.prog 20 ti20.cmp = { ti20 with kinds := [] } := by kernel_rfl
noncomputable def ti21 : TI := ⟨.leaf, 1, 4, [.i .i32 0], .int .i32, false, [.int .i32]⟩
theorem tiOk21 : mkTI Tryz.prog 21 ti21.cmp = { ti21 with kinds := [] } := by kernel_rfl
noncomputable def ti22 : TI := ⟨.sl 174, 1, 24, [.v (.slice none 0 0)], .other, false, [.other]⟩
theorem tiOk22 : mkTI Tryz.prog 22 ti22.cmp = { ti22 with kinds := [] } := by kernel_rfl
noncomputable def ti23 : TI := ⟨.leaf, 1, 8, [.i .i64 0], .int .i64, false, [.int .i64]⟩
theorem tiOk23 : mkTI Tryz.prog 23 ti23.cmp = { ti23 with kinds := [] } := by kernel_rfl
noncomputable def ti26 : TI := ⟨.sl 39, 1, 24, [.v (.slice none 0 0)], .other, false, [.other]⟩
theorem tiOk26 : mkTI Tryz.prog 26 ti26.cmp = { ti26 with kinds := [] } := by kernel_rfl
noncomputable def ti27 : TI := ⟨.sl 3, 1, 24, [.v (.slice none 0 0)], .other, false, [.other]⟩
theorem tiOk27 : mkTI Tryz.prog 27 ti27.cmp = { ti27 with kinds := [] } := by kernel_rfl
noncomputable def ti28 : TI := ⟨.leaf, 1, 8, [.v (.float .f64 0)], .flt, false, [.flt]⟩
theorem tiOk28 : mkTI Tryz.prog 28 ti28.cmp = { ti28 with kinds := [] } := by kernel_rfl
noncomputable def ti30 : TI := ⟨.st [(0, 26, 1), (1, 9, 1), (2, 3, 1), (3, 3, 1), (4, 27, 1), (5, 3, 1), (6, 3, 1), (7, 28, 1)], 8, 104, [.v (.slice none 0 0), .s ByteArray.empty, .i .i64 0, .i .i64 0, .v (.slice none 0 0), .i .i64 0, .i .i64 0, .v (.float .f64 0)], .other, false, [.other, .str, .int .i64, .int .i64, .other, .int .i64, .int .i64, .flt]⟩
theorem tiOk30 : mkTI Tryz.prog 30 ti30.cmp = { ti30 with kinds := [] } := by kernel_rfl
noncomputable def ti33 : TI := ⟨.sl 9, 1, 24, [.v (.slice none 0 0)], .other, false, [.other]⟩
theorem tiOk33 : mkTI Tryz.prog 33 ti33.cmp = { ti33 with kinds := [] } := by kernel_rfl
noncomputable def ti37 : TI := ⟨.st [(0, 3, 1), (1, 3, 1), (2, 3, 1), (3, 3, 1), (4, 3, 1)], 5, 40, [.i .i64 0, .i .i64 0, .i .i64 0, .i .i64 0, .i .i64 0], .other, true, [.int .i64, .int .i64, .int .i64, .int .i64, .int .i64]⟩
theorem tiOk37 : mkTI Tryz.prog 37 ti37.cmp = { ti37 with kinds := [] } := by kernel_rfl
noncomputable def ti39 : TI := ⟨.st [(0, 9, 1), (1, 3, 1), (2, 3, 1), (3, 3, 1), (4, 37, 5), (9, 4, 1)], 10, 88, [.s ByteArray.empty, .i .i64 0, .i .i64 0, .i .i64 0, .i .i64 0, .i .i64 0, .i .i64 0, .i .i64 0, .i .i64 0, .b false], .other, true, [.str, .int .i64, .int .i64, .int .i64, .int .i64, .int .i64, .int .i64, .int .i64, .int .i64, .bool]⟩
theorem tiOk39 : mkTI Tryz.prog 39 ti39.cmp = { ti39 with kinds := [] } := by kernel_rfl
noncomputable def ti50 : TI := ⟨.leaf, 1, 8, [.v (.pointer none)], .ptr, false, [.other]⟩
theorem tiOk50 : mkTI Tryz.prog 50 ti50.cmp = { ti50 with kinds := [] } := by kernel_rfl
noncomputable def ti54 : TI := ⟨.leaf, 1, 8, [.i .u64 0], .int .u64, false, [.int .u64]⟩
theorem tiOk54 : mkTI Tryz.prog 54 ti54.cmp = { ti54 with kinds := [] } := by kernel_rfl
noncomputable def ti56 : TI := ⟨.leaf, 1, 8, [.i .u64 0], .int .u64, false, [.int .u64]⟩
theorem tiOk56 : mkTI Tryz.prog 56 ti56.cmp = { ti56 with kinds := [] } := by kernel_rfl
noncomputable def ti57 : TI := ⟨.leaf, 1, 8, [.v (.map none)], .mp, false, [.other]⟩
theorem tiOk57 : mkTI Tryz.prog 57 ti57.cmp = { ti57 with kinds := [] } := by kernel_rfl
noncomputable def ti60 : TI := ⟨.leaf, 1, 8, [.v .nilFunc], .fnc, false, [.other]⟩
theorem tiOk60 : mkTI Tryz.prog 60 ti60.cmp = { ti60 with kinds := [] } := by kernel_rfl
noncomputable def ti63 : TI := ⟨.leaf, 1, 8, [.v (.pointer none)], .ptr, false, [.other]⟩
theorem tiOk63 : mkTI Tryz.prog 63 ti63.cmp = { ti63 with kinds := [] } := by kernel_rfl
noncomputable def ti64 : TI := ⟨.sl 5, 1, 24, [.v (.slice none 0 0)], .other, false, [.other]⟩
theorem tiOk64 : mkTI Tryz.prog 64 ti64.cmp = { ti64 with kinds := [] } := by kernel_rfl
noncomputable def ti66 : TI := ⟨.st [(0, 63, 1), (1, 64, 1)], 2, 32, [.v (.pointer none), .v (.slice none 0 0)], .other, false, [.other, .other]⟩
theorem tiOk66 : mkTI Tryz.prog 66 ti66.cmp = { ti66 with kinds := [] } := by kernel_rfl
noncomputable def ti68 : TI := ⟨.ifc, 1, 16, [.v .nilIface], .other, false, [.other]⟩
theorem tiOk68 : mkTI Tryz.prog 68 ti68.cmp = { ti68 with kinds := [] } := by kernel_rfl
noncomputable def ti76 : TI := ⟨.st [(0, 23, 1)], 1, 8, [.i .i64 0], .other, true, [.int .i64]⟩
theorem tiOk76 : mkTI Tryz.prog 76 ti76.cmp = { ti76 with kinds := [] } := by kernel_rfl
noncomputable def ti94 : TI := ⟨.leaf, 1, 8, [.v (.pointer none)], .ptr, false, [.other]⟩
theorem tiOk94 : mkTI Tryz.prog 94 ti94.cmp = { ti94 with kinds := [] } := by kernel_rfl
noncomputable def ti101 : TI := ⟨.leaf, 1, 8, [.v .nilFunc], .fnc, false, [.other]⟩
theorem tiOk101 : mkTI Tryz.prog 101 ti101.cmp = { ti101 with kinds := [] } := by kernel_rfl
noncomputable def ti121 : TI := ⟨.arr 24 5, 24, 24, [.i .u8 0, .i .u8 0, .i .u8 0, .i .u8 0, .i .u8 0, .i .u8 0, .i .u8 0, .i .u8 0, .i .u8 0, .i .u8 0, .i .u8 0, .i .u8 0, .i .u8 0, .i .u8 0, .i .u8 0, .i .u8 0, .i .u8 0, .i .u8 0, .i .u8 0, .i .u8 0, .i .u8 0, .i .u8 0, .i .u8 0, .i .u8 0], .other, false, [.int .u8, .int .u8, .int .u8, .int .u8, .int .u8, .int .u8, .int .u8, .int .u8, .int .u8, .int .u8, .int .u8, .int .u8, .int .u8, .int .u8, .int .u8, .int .u8, .int .u8, .int .u8, .int .u8, .int .u8, .int .u8, .int .u8, .int .u8, .int .u8]⟩
theorem tiOk121 : mkTI Tryz.prog 121 ti121.cmp = { ti121 with kinds := [] } := by kernel_rfl
noncomputable def ti125 : TI := ⟨.arr 64 5, 64, 64, [.i .u8 0, .i .u8 0, .i .u8 0, .i .u8 0, .i .u8 0, .i .u8 0, .i .u8 0, .i .u8 0, .i .u8 0, .i .u8 0, .i .u8 0, .i .u8 0, .i .u8 0, .i .u8 0, .i .u8 0, .i .u8 0, .i .u8 0, .i .u8 0, .i .u8 0, .i .u8 0, .i .u8 0, .i .u8 0, .i .u8 0, .i .u8 0, .i .u8 0, .i .u8 0, .i .u8 0, .i .u8 0, .i .u8 0, .i .u8 0, .i .u8 0, .i .u8 0, .i .u8 0, .i .u8 0, .i .u8 0, .i .u8 0, .i .u8 0, .i .u8 0, .i .u8 0, .i .u8 0, .i .u8 0, .i .u8 0, .i .u8 0, .i .u8 0, .i .u8 0, .i .u8 0, .i .u8 0, .i .u8 0, .i .u8 0, .i .u8 0, .i .u8 0, .i .u8 0, .i .u8 0, .i .u8 0, .i .u8 0, .i .u8 0, .i .u8 0, .i .u8 0, .i .u8 0, .i .u8 0, .i .u8 0, .i .u8 0, .i .u8 0, .i .u8 0], .other, false, [.int .u8, .int .u8, .int .u8, .int .u8, .int .u8, .int .u8, .int .u8, .int .u8, .int .u8, .int .u8, .int .u8, .int .u8, .int .u8, .int .u8, .int .u8, .int .u8, .int .u8, .int .u8, .int .u8, .int .u8, .int .u8, .int .u8, .int .u8, .int .u8, .int .u8, .int .u8, .int .u8, .int .u8, .int .u8, .int .u8, .int .u8, .int .u8, .int .u8, .int .u8, .int .u8, .int .u8, .int .u8, .int .u8, .int .u8, .int .u8, .int .u8, .int .u8, .int .u8, .int .u8, .int .u8, .int .u8, .int .u8, .int .u8, .int .u8, .int .u8, .int .u8, .int .u8, .int .u8, .int .u8, .int .u8, .int .u8, .int .u8, .int .u8, .int .u8, .int .u8, .int .u8, .int .u8, .int .u8, .int .u8]⟩
theorem tiOk125 : mkTI Tryz.prog 125 ti125.cmp = { ti125 with kinds := [] } := by kernel_rfl
noncomputable def ti129 : TI := ⟨.leaf, 1, 8, [.i .i64 0], .int .i64, false, [.int .i64]⟩
theorem tiOk129 : mkTI Tryz.prog 129 ti129.cmp = { ti129 with kinds := [] } := by kernel_rfl
noncomputable def ti132 : TI := ⟨.leaf, 1, 8, [.v (.pointer none)], .ptr, false, [.other]⟩
theorem tiOk132 : mkTI Tryz.prog 132 ti132.cmp = { ti132 with kinds := [] } := by kernel_rfl
noncomputable def ti137 : TI := ⟨.arr 20 54, 20, 160, [.i .u64 0, .i .u64 0, .i .u64 0, .i .u64 0, .i .u64 0, .i .u64 0, .i .u64 0, .i .u64 0, .i .u64 0, .i .u64 0, .i .u64 0, .i .u64 0, .i .u64 0, .i .u64 0, .i .u64 0, .i .u64 0, .i .u64 0, .i .u64 0, .i .u64 0, .i .u64 0], .other, false, [.int .u64, .int .u64, .int .u64, .int .u64, .int .u64, .int .u64, .int .u64, .int .u64, .int .u64, .int .u64, .int .u64, .int .u64, .int .u64, .int .u64, .int .u64, .int .u64, .int .u64, .int .u64, .int .u64, .int .u64]⟩
theorem tiOk137 : mkTI Tryz.prog 137 ti137.cmp = { ti137 with kinds := [] } := by kernel_rfl
noncomputable def ti138 : TI := ⟨.leaf, 1, 4, [.i .u32 0], .int .u32, false, [.int .u32]⟩
theorem tiOk138 : mkTI Tryz.prog 138 ti138.cmp = { ti138 with kinds := [] } := by kernel_rfl
noncomputable def ti139 : TI := ⟨.arr 65 5, 65, 65, [.i .u8 0, .i .u8 0, .i .u8 0, .i .u8 0, .i .u8 0, .i .u8 0, .i .u8 0, .i .u8 0, .i .u8 0, .i .u8 0, .i .u8 0, .i .u8 0, .i .u8 0, .i .u8 0, .i .u8 0, .i .u8 0, .i .u8 0, .i .u8 0, .i .u8 0, .i .u8 0, .i .u8 0, .i .u8 0, .i .u8 0, .i .u8 0, .i .u8 0, .i .u8 0, .i .u8 0, .i .u8 0, .i .u8 0, .i .u8 0, .i .u8 0, .i .u8 0, .i .u8 0, .i .u8 0, .i .u8 0, .i .u8 0, .i .u8 0, .i .u8 0, .i .u8 0, .i .u8 0, .i .u8 0, .i .u8 0, .i .u8 0, .i .u8 0, .i .u8 0, .i .u8 0, .i .u8 0, .i .u8 0, .i .u8 0, .i .u8 0, .i .u8 0, .i .u8 0, .i .u8 0, .i .u8 0, .i .u8 0, .i .u8 0, .i .u8 0, .i .u8 0, .i .u8 0, .i .u8 0, .i .u8 0, .i .u8 0, .i .u8 0, .i .u8 0, .i .u8 0], .other, false, [.int .u8, .int .u8, .int .u8, .int .u8, .int .u8, .int .u8, .int .u8, .int .u8, .int .u8, .int .u8, .int .u8, .int .u8, .int .u8, .int .u8, .int .u8, .int .u8, .int .u8, .int .u8, .int .u8, .int .u8, .int .u8, .int .u8, .int .u8, .int .u8, .int .u8, .int .u8, .int .u8, .int .u8, .int .u8, .int .u8, .int .u8, .int .u8, .int .u8, .int .u8, .int .u8, .int .u8, .int .u8, .int .u8, .int .u8, .int .u8, .int .u8, .int .u8, .int .u8, .int .u8, .int .u8, .int .u8, .int .u8, .int .u8, .int .u8, .int .u8, .int .u8, .int .u8, .int .u8, .int .u8, .int .u8, .int .u8, .int .u8, .int .u8, .int .u8, .int .u8, .int .u8, .int .u8, .int .u8, .int .u8, .int .u8]⟩
theorem tiOk139 : mkTI Tryz.prog 139 ti139.cmp = { ti139 with kinds := [] } := by kernel_rfl
noncomputable def ti147 : TI := ⟨.st [(0, 9, 1), (1, 9, 1), (2, 68, 1)], 3, 48, [.s ByteArray.empty, .s ByteArray.empty, .v .nilIface], .other, false, [.str, .str, .other]⟩
theorem tiOk147 : mkTI Tryz.prog 147 ti147.cmp = { ti147 with kinds := [] } := by kernel_rfl
noncomputable def ti150 : TI := ⟨.arr 256 5, 256, 256, [.i .u8 0, .i .u8 0, .i .u8 0, .i .u8 0, .i .u8 0, .i .u8 0, .i .u8 0, .i .u8 0, .i .u8 0, .i .u8 0, .i .u8 0, .i .u8 0, .i .u8 0, .i .u8 0, .i .u8 0, .i .u8 0, .i .u8 0, .i .u8 0, .i .u8 0, .i .u8 0, .i .u8 0, .i .u8 0, .i .u8 0, .i .u8 0, .i .u8 0, .i .u8 0, .i .u8 0, .i .u8 0, .i .u8 0, .i .u8 0, .i .u8 0, .i .u8 0, .i .u8 0, .i .u8 0, .i .u8 0, .i .u8 0, .i .u8 0, .i .u8 0, .i .u8 0, .i .u8 0, .i .u8 0, .i .u8 0, .i .u8 0, .i .u8 0, .i .u8 0, .i .u8 0, .i .u8 0, .i .u8 0, .i .u8 0, .i .u8 0, .i .u8 0, .i .u8 0, .i .u8 0, .i .u8 0, .i .u8 0, .i .u8 0, .i .u8 0, .i .u8 0, .i .u8 0, .i .u8 0, .i .u8 0, .i .u8 0, .i .u8 0, .i .u8 0, .i .u8 0, .i .u8 0, .i .u8 0, .i .u8 0, .i .u8 0, .i .u8 0, .i .u8 0, .i .u8 0, .i .u8 0, .i .u8 0, .i .u8 0, .i .u8 0, .i .u8 0, .i .u8 0, .i .u8 0, .i .u8 0, .i .u8 0, .i .u8 0, .i .u8 0, .i .u8 0, .i .u8 0, .i .u8 0, .i .u8 0, .i .u8 0, .i .u8 0, .i .u8 0, .i .u8 0, .i .u8 0, .i .u8 0, .i .u8 0, .i .u8 0, .i .u8 0, .i .u8 0, .i .u8 0, .i .u8 0, .i .u8 0, .i .u8 0, .i .u8 0, .i .u8 0, .i .u8 0, .i .u8 0, .i .u8 0, .i .u8 0, .i .u8 0, .i .u8 0, .i .u8 0, .i .u8 0, .i .u8 0, .i .u8 0, .i .u8 0, .i .u8 0, .i .u8 0, .i .u8 0, .i .u8 0, .i .u8 0, .i .u8 0, .i .u8 0, .i .u8 0, .i .u8 0, .i .u8 0, .i .u8 0, .i .u8 0, .i .u8 0, .i .u8 0, .i .u8 0, .i .u8 0, .i .u8 0, .i .u8 0, .i .u8 0, .i .u8 0, .i .u8 0, .i .u8 0, .i .u8 0, .i .u8 0, .i .u8 0, .i .u8 0, .i .u8 0, .i .u8 0, .i .u8 0, .i .u8 0, .i .u8 0, .i .u8 0, .i .u8 0, .i .u8 0, .i .u8 0, .i .u8 0, .i .u8 0, .i .u8 0, .i .u8 0, .i .u8 0, .i .u8 0, .i .u8 0, .i .u8 0, .i .u8 0, .i .u8 0, .i .u8 0, .i .u8 0, .i .u8 0, .i .u8 0, .i .u8 0, .i .u8 0, .i .u8 0, .i .u8 0, .i .u8 0, .i .u8 0, .i .u8 0, .i .u8 0, .i .u8 0, .i .u8 0, .i .u8 0, .i .u8 0, .i .u8 0, .i .u8 0, .i .u8 0, .i .u8 0, .i .u8 0, .i .u8 0, .i .u8 0, .i .u8 0, .i .u8 0, .i .u8 0, .i .u8 0, .i .u8 0, .i .u8 0, .i .u8 0, .i .u8 0, .i .u8 0, .i .u8 0, .i .u8 0, .i .u8 0, .i .u8 0, .i .u8 0, .i .u8 0, .i .u8 0, .i .u8 0, .i .u8 0, .i .u8 0, .i .u8 0, .i .u8 0, .i .u8 0, .i .u8 0, .i .u8 0, .i .u8 0, .i .u8 0, .i .u8 0, .i .u8 0, .i .u8 0, .i .u8 0, .i .u8 0, .i .u8 0, .i .u8 0, .i .u8 0, .i .u8 0, .i .u8 0, .i .u8 0, .i .u8 0, .i .u8 0, .i .u8 0, .i .u8 0, .i .u8 0, .i .u8 0, .i .u8 0, .i .u8 0, .i .u8 0, .i .u8 0, .i .u8 0, .i .u8 0, .i .u8 0, .i .u8 0, .i .u8 0, .i .u8 0, .i .u8 0, .i .u8 0, .i .u8 0, .i .u8 0, .i .u8 0, .i .u8 0, .i .u8 0, .i .u8 0, .i .u8 0, .i .u8 0, .i .u8 0, .i .u8 0, .i .u8 0, .i .u8 0, .i .u8 0, .i .u8 0, .i .u8 0, .i .u8 0, .i .u8 0, .i .u8 0, .i .u8 0], .other, false, [.int .u8, .int .u8, .int .u8, .int .u8, .int .u8, .int .u8, .int .u8, .int .u8, .int .u8, .int .u8, .int .u8, .int .u8, .int .u8, .int .u8, .int .u8, .int .u8, .int .u8, .int .u8, .int .u8, .int .u8, .int .u8, .int .u8, .int .u8, .int .u8, .int .u8, .int .u8, .int .u8, .int .u8, .int .u8, .int .u8, .int .u8, .int .u8, .int .u8, .int .u8, .int .u8, .int .u8, .int .u8, .int .u8, .int .u8, .int .u8, .int .u8, .int .u8, .int .u8, .int .u8, .int .u8, .int .u8, .int .u8, .int .u8, .int .u8, .int .u8, .int .u8, .int .u8, .int .u8, .int .u8, .int .u8, .int .u8, .int .u8, .int .u8, .int .u8, .int .u8, .int .u8, .int .u8, .int .u8, .int .u8, .int .u8, .int .u8, .int .u8, .int .u8, .int .u8, .int .u8, .int .u8, .int .u8, .int .u8, .int .u8, .int .u8, .int .u8, .int .u8, .int .u8, .int .u8, .int .u8, .int .u8, .int .u8, .int .u8, .int .u8, .int .u8, .int .u8, .int .u8, .int .u8, .int .u8, .int .u8, .int .u8, .int .u8, .int .u8, .int .u8, .int .u8, .int .u8, .int .u8, .int .u8, .int .u8, .int .u8, .int .u8, .int .u8, .int .u8, .int .u8, .int .u8, .int .u8, .int .u8, .int .u8, .int .u8, .int .u8, .int .u8, .int .u8, .int .u8, .int .u8, .int .u8, .int .u8, .int .u8, .int .u8, .int .u8, .int .u8, .int .u8, .int .u8, .int .u8, .int .u8, .int .u8, .int .u8, .int .u8, .int .u8, .int .u8, .int .u8, .int .u8, .int .u8, .int .u8, .int .u8, .int .u8, .int .u8, .int .u8, .int .u8, .int .u8, .int .u8, .int .u8, .int .u8, .int .u8, .int .u8, .int .u8, .int .u8, .int .u8, .int .u8, .int .u8, .int .u8, .int .u8, .int .u8, .int .u8, .int .u8, .int .u8, .int .u8, .int .u8, .int .u8, .int .u8, .int .u8, .int .u8, .int .u8, .int .u8, .int .u8, .int .u8, .int .u8, .int .u8, .int .u8, .int .u8, .int .u8, .int .u8, .int .u8, .int .u8, .int .u8, .int .u8, .int .u8, .int .u8, .int .u8, .int .u8, .int .u8, .int .u8, .int .u8, .int .u8, .int .u8, .int .u8, .int .u8, .int .u8, .int .u8, .int .u8, .int .u8, .int .u8, .int .u8, .int .u8, .int .u8, .int .u8, .int .u8, .int .u8, .int .u8, .int .u8, .int .u8, .int .u8, .int .u8, .int .u8, .int .u8, .int .u8, .int .u8, .int .u8, .int .u8, .int .u8, .int .u8, .int .u8, .int .u8, .int .u8, .int .u8, .int .u8, .int .u8, .int .u8, .int .u8, .int .u8, .int .u8, .int .u8, .int .u8, .int .u8, .int .u8, .int .u8, .int .u8, .int .u8, .int .u8, .int .u8, .int .u8, .int .u8, .int .u8, .int .u8, .int .u8, .int .u8, .int .u8, .int .u8, .int .u8, .int .u8, .int .u8, .int .u8, .int .u8, .int .u8, .int .u8, .int .u8, .int .u8, .int .u8, .int .u8, .int .u8, .int .u8, .int .u8, .int .u8, .int .u8, .int .u8, .int .u8, .int .u8]⟩
theorem tiOk150 : mkTI Tryz.prog 150 ti150.cmp = { ti150 with kinds := [] } := by kernel_rfl
noncomputable def ti152 : TI := ⟨.st [(0, 5, 1), (1, 5, 1)], 2, 2, [.i .u8 0, .i .u8 0], .other, true, [.int .u8, .int .u8]⟩
theorem tiOk152 : mkTI Tryz.prog 152 ti152.cmp = { ti152 with kinds := [] } := by kernel_rfl
noncomputable def ti153 : TI := ⟨.arr 16 152, 32, 32, [.i .u8 0, .i .u8 0, .i .u8 0, .i .u8 0, .i .u8 0, .i .u8 0, .i .u8 0, .i .u8 0, .i .u8 0, .i .u8 0, .i .u8 0, .i .u8 0, .i .u8 0, .i .u8 0, .i .u8 0, .i .u8 0, .i .u8 0, .i .u8 0, .i .u8 0, .i .u8 0, .i .u8 0, .i .u8 0, .i .u8 0, .i .u8 0, .i .u8 0, .i .u8 0, .i .u8 0, .i .u8 0, .i .u8 0, .i .u8 0, .i .u8 0, .i .u8 0], .other, false, [.int .u8, .int .u8, .int .u8, .int .u8, .int .u8, .int .u8, .int .u8, .int .u8, .int .u8, .int .u8, .int .u8, .int .u8, .int .u8, .int .u8, .int .u8, .int .u8, .int .u8, .int .u8, .int .u8, .int .u8, .int .u8, .int .u8, .int .u8, .int .u8, .int .u8, .int .u8, .int .u8, .int .u8, .int .u8, .int .u8, .int .u8, .int .u8]⟩
theorem tiOk153 : mkTI Tryz.prog 153 ti153.cmp = { ti153 with kinds := [] } := by kernel_rfl
noncomputable def ti156 : TI := ⟨.leaf, 1, 8, [.v (.pointer none)], .ptr, false, [.other]⟩
theorem tiOk156 : mkTI Tryz.prog 156 ti156.cmp = { ti156 with kinds := [] } := by kernel_rfl
noncomputable def ti158 : TI := ⟨.st [(0, 9, 1)], 1, 16, [.s ByteArray.empty], .other, true, [.str]⟩
theorem tiOk158 : mkTI Tryz.prog 158 ti158.cmp = { ti158 with kinds := [] } := by kernel_rfl
noncomputable def ti159 : TI := ⟨.arr 32 5, 32, 32, [.i .u8 0, .i .u8 0, .i .u8 0, .i .u8 0, .i .u8 0, .i .u8 0, .i .u8 0, .i .u8 0, .i .u8 0, .i .u8 0, .i .u8 0, .i .u8 0, .i .u8 0, .i .u8 0, .i .u8 0, .i .u8 0, .i .u8 0, .i .u8 0, .i .u8 0, .i .u8 0, .i .u8 0, .i .u8 0, .i .u8 0, .i .u8 0, .i .u8 0, .i .u8 0, .i .u8 0, .i .u8 0, .i .u8 0, .i .u8 0, .i .u8 0, .i .u8 0], .other, false, [.int .u8, .int .u8, .int .u8, .int .u8, .int .u8, .int .u8, .int .u8, .int .u8, .int .u8, .int .u8, .int .u8, .int .u8, .int .u8, .int .u8, .int .u8, .int .u8, .int .u8, .int .u8, .int .u8, .int .u8, .int .u8, .int .u8, .int .u8, .int .u8, .int .u8, .int .u8, .int .u8, .int .u8, .int .u8, .int .u8, .int .u8, .int .u8]⟩
theorem tiOk159 : mkTI Tryz.prog 159 ti159.cmp = { ti159 with kinds := [] } := by kernel_rfl
noncomputable def tts : Tr TI := (.node 63 (.node 27 (.node 20 (.node 4 (.node 3 (.leaf 2 ti2) (.leaf 3 ti3)) (.node 5 (.leaf 4 ti4) (.node 9 (.leaf 5 ti5) (.leaf 9 ti9)))) (.node 22 (.node 21 (.leaf 20 ti20) (.leaf 21 ti21)) (.node 23 (.leaf 22 ti22) (.node 26 (.leaf 23 ti23) (.leaf 26 ti26))))) (.node 39 (.node 30 (.node 28 (.leaf 27 ti27) (.leaf 28 ti28)) (.node 33 (.leaf 30 ti30) (.node 37 (.leaf 33 ti33) (.leaf 37 ti37)))) (.node 56 (.node 50 (.leaf 39 ti39) (.node 54 (.leaf 50 ti50) (.leaf 54 ti54))) (.node 57 (.leaf 56 ti56) (.node 60 (.leaf 57 ti57) (.leaf 60 ti60)))))) (.node 132 (.node 94 (.node 66 (.node 64 (.leaf 63 ti63) (.leaf 64 ti64)) (.node 68 (.leaf 66 ti66) (.node 76 (.leaf 68 ti68) (.leaf 76 ti76)))) (.node 121 (.node 101 (.leaf 94 ti94) (.leaf 101 ti101)) (.node 125 (.leaf 121 ti121) (.node 129 (.leaf 125 ti125) (.leaf 129 ti129))))) (.node 150 (.node 138 (.node 137 (.leaf 132 ti132) (.leaf 137 ti137)) (.node 139 (.leaf 138 ti138) (.node 147 (.leaf 139 ti139) (.leaf 147 ti147)))) (.node 156 (.node 152 (.leaf 150 ti150) (.node 153 (.leaf 152 ti152) (.leaf 153 ti153))) (.node 158 (.leaf 156 ti156) (.node 159 (.leaf 158 ti158) (.leaf 159 ti159)))))))
theorem tok : TTok Tryz.prog (ttOf tts) := ttOk_of (t := tts) (⟨⟨⟨⟨⟨tiOk2, tiOk3⟩, ⟨tiOk4, ⟨tiOk5, tiOk9⟩⟩⟩, ⟨⟨tiOk20, tiOk21⟩, ⟨tiOk22, ⟨tiOk23, tiOk26⟩⟩⟩⟩, ⟨⟨⟨tiOk27, tiOk28⟩, ⟨tiOk30, ⟨tiOk33, tiOk37⟩⟩⟩, ⟨⟨tiOk39, ⟨tiOk50, tiOk54⟩⟩, ⟨tiOk56, ⟨tiOk57, tiOk60⟩⟩⟩⟩⟩, ⟨⟨⟨⟨tiOk63, tiOk64⟩, ⟨tiOk66, ⟨tiOk68, tiOk76⟩⟩⟩, ⟨⟨tiOk94, tiOk101⟩, ⟨tiOk121, ⟨tiOk125, tiOk129⟩⟩⟩⟩, ⟨⟨⟨tiOk132, tiOk137⟩, ⟨tiOk138, ⟨tiOk139, tiOk147⟩⟩⟩, ⟨⟨tiOk150, ⟨tiOk152, tiOk153⟩⟩, ⟨tiOk156, ⟨tiOk158, tiOk159⟩⟩⟩⟩⟩⟩)
noncomputable def fi3 (z : Bool) : FI := fiOf Tryz.f3 ⟨[0, 3, 5, 6, 7], z⟩
theorem fiOk3 (z : Bool) : FIok Tryz.prog 3 (fi3 z) := fiOk_of _ Tryz.func3 (by kernel_rfl)
noncomputable def fi4 (z : Bool) : FI := fiOf Tryz.f4 ⟨[0, 3, 4], z⟩
theorem fiOk4 (z : Bool) : FIok Tryz.prog 4 (fi4 z) := fiOk_of _ Tryz.func4 (by kernel_rfl)
noncomputable def fi5 (z : Bool) : FI := fiOf Tryz.f5 ⟨[], z⟩
theorem fiOk5 (z : Bool) : FIok Tryz.prog 5 (fi5 z) := fiOk_of _ Tryz.func5 (by kernel_rfl)
noncomputable def fi6 (z : Bool) : FI := fiOf Tryz.f6 ⟨[], z⟩
theorem fiOk6 (z : Bool) : FIok Tryz.prog 6 (fi6 z) := fiOk_of _ Tryz.func6 (by kernel_rfl)
noncomputable def fi7 (z : Bool) : FI := fiOf Tryz.f7 ⟨[], z⟩
theorem fiOk7 (z : Bool) : FIok Tryz.prog 7 (fi7 z) := fiOk_of _ Tryz.func7 (by kernel_rfl)
noncomputable def fi8 (z : Bool) : FI := fiOf Tryz.f8 ⟨[], z⟩
theorem fiOk8 (z : Bool) : FIok Tryz.prog 8 (fi8 z) := fiOk_of _ Tryz.func8 (by kernel_rfl)
noncomputable def fi9 (z : Bool) : FI := fiOf Tryz.f9 ⟨[], z⟩
theorem fiOk9 (z : Bool) : FIok Tryz.prog 9 (fi9 z) := fiOk_of _ Tryz.func9 (by kernel_rfl)
noncomputable def fi10 (z : Bool) : FI := fiOf Tryz.f10 ⟨[], z⟩
theorem fiOk10 (z : Bool) : FIok Tryz.prog 10 (fi10 z) := fiOk_of _ Tryz.func10 (by kernel_rfl)
noncomputable def fi11 (z : Bool) : FI := fiOf Tryz.f11 ⟨[], z⟩
theorem fiOk11 (z : Bool) : FIok Tryz.prog 11 (fi11 z) := fiOk_of _ Tryz.func11 (by kernel_rfl)
noncomputable def fi12 (z : Bool) : FI := fiOf Tryz.f12 ⟨[], z⟩
theorem fiOk12 (z : Bool) : FIok Tryz.prog 12 (fi12 z) := fiOk_of _ Tryz.func12 (by kernel_rfl)
noncomputable def fi13 (z : Bool) : FI := fiOf Tryz.f13 ⟨[1, 3, 8, 9, 10], z⟩
theorem fiOk13 (z : Bool) : FIok Tryz.prog 13 (fi13 z) := fiOk_of _ Tryz.func13 (by kernel_rfl)
noncomputable def fi14 (z : Bool) : FI := fiOf Tryz.f14 ⟨[3, 4, 44, 45, 46], z⟩
theorem fiOk14 (z : Bool) : FIok Tryz.prog 14 (fi14 z) := fiOk_of _ Tryz.func14 (by kernel_rfl)
noncomputable def fi15 (z : Bool) : FI := fiOf Tryz.f15 ⟨[], z⟩
theorem fiOk15 (z : Bool) : FIok Tryz.prog 15 (fi15 z) := fiOk_of _ Tryz.func15 (by kernel_rfl)
noncomputable def fi16 (z : Bool) : FI := fiOf Tryz.f16 ⟨[], z⟩
theorem fiOk16 (z : Bool) : FIok Tryz.prog 16 (fi16 z) := fiOk_of _ Tryz.func16 (by kernel_rfl)
noncomputable def fi17 (z : Bool) : FI := fiOf Tryz.f17 ⟨[0, 2, 3, 72, 73, 74, 90, 91, 92], z⟩
theorem fiOk17 (z : Bool) : FIok Tryz.prog 17 (fi17 z) := fiOk_of _ Tryz.func17 (by kernel_rfl)
noncomputable def fi18 (z : Bool) : FI := fiOf Tryz.f18 ⟨[], z⟩
theorem fiOk18 (z : Bool) : FIok Tryz.prog 18 (fi18 z) := fiOk_of _ Tryz.func18 (by kernel_rfl)
noncomputable def fi21 (z : Bool) : FI := fiOf Tryz.f21 ⟨[], z⟩
theorem fiOk21 (z : Bool) : FIok Tryz.prog 21 (fi21 z) := fiOk_of _ Tryz.func21 (by kernel_rfl)
noncomputable def fi22 (z : Bool) : FI := fiOf Tryz.f22 ⟨[], z⟩
theorem fiOk22 (z : Bool) : FIok Tryz.prog 22 (fi22 z) := fiOk_of _ Tryz.func22 (by kernel_rfl)
noncomputable def fi23 (z : Bool) : FI := fiOf Tryz.f23 ⟨[], z⟩
theorem fiOk23 (z : Bool) : FIok Tryz.prog 23 (fi23 z) := fiOk_of _ Tryz.func23 (by kernel_rfl)
noncomputable def fi24 (z : Bool) : FI := fiOf Tryz.f24 ⟨[], z⟩
theorem fiOk24 (z : Bool) : FIok Tryz.prog 24 (fi24 z) := fiOk_of _ Tryz.func24 (by kernel_rfl)
noncomputable def fi25 (z : Bool) : FI := fiOf Tryz.f25 ⟨[0, 3, 4], z⟩
theorem fiOk25 (z : Bool) : FIok Tryz.prog 25 (fi25 z) := fiOk_of _ Tryz.func25 (by kernel_rfl)
noncomputable def fi26 (z : Bool) : FI := fiOf Tryz.f26 ⟨[2, 9, 10, 11], z⟩
theorem fiOk26 (z : Bool) : FIok Tryz.prog 26 (fi26 z) := fiOk_of _ Tryz.func26 (by kernel_rfl)
noncomputable def fi27 (z : Bool) : FI := fiOf Tryz.f27 ⟨[], z⟩
theorem fiOk27 (z : Bool) : FIok Tryz.prog 27 (fi27 z) := fiOk_of _ Tryz.func27 (by kernel_rfl)
noncomputable def fi28 (z : Bool) : FI := fiOf Tryz.f28 ⟨[], z⟩
theorem fiOk28 (z : Bool) : FIok Tryz.prog 28 (fi28 z) := fiOk_of _ Tryz.func28 (by kernel_rfl)
noncomputable def fi29 (z : Bool) : FI := fiOf Tryz.f29 ⟨[], z⟩
theorem fiOk29 (z : Bool) : FIok Tryz.prog 29 (fi29 z) := fiOk_of _ Tryz.func29 (by kernel_rfl)
noncomputable def fi31 (z : Bool) : FI := fiOf Tryz.f31 ⟨[], z⟩
theorem fiOk31 (z : Bool) : FIok Tryz.prog 31 (fi31 z) := fiOk_of _ Tryz.func31 (by kernel_rfl)
noncomputable def fi32 (z : Bool) : FI := fiOf Tryz.f32 ⟨[], z⟩
theorem fiOk32 (z : Bool) : FIok Tryz.prog 32 (fi32 z) := fiOk_of _ Tryz.func32 (by kernel_rfl)
noncomputable def fi33 (z : Bool) : FI := fiOf Tryz.f33 ⟨[], z⟩
theorem fiOk33 (z : Bool) : FIok Tryz.prog 33 (fi33 z) := fiOk_of _ Tryz.func33 (by kernel_rfl)
noncomputable def fi34 (z : Bool) : FI := fiOf Tryz.f34 ⟨[], z⟩
theorem fiOk34 (z : Bool) : FIok Tryz.prog 34 (fi34 z) := fiOk_of _ Tryz.func34 (by kernel_rfl)
noncomputable def fi35 (z : Bool) : FI := fiOf Tryz.f35 ⟨[], z⟩
theorem fiOk35 (z : Bool) : FIok Tryz.prog 35 (fi35 z) := fiOk_of _ Tryz.func35 (by kernel_rfl)
noncomputable def fi36 (z : Bool) : FI := fiOf Tryz.f36 ⟨[], z⟩
theorem fiOk36 (z : Bool) : FIok Tryz.prog 36 (fi36 z) := fiOk_of _ Tryz.func36 (by kernel_rfl)
noncomputable def fi37 (z : Bool) : FI := fiOf Tryz.f37 ⟨[], z⟩
theorem fiOk37 (z : Bool) : FIok Tryz.prog 37 (fi37 z) := fiOk_of _ Tryz.func37 (by kernel_rfl)
noncomputable def fi38 (z : Bool) : FI := fiOf Tryz.f38 ⟨[0, 1, 5], z⟩
theorem fiOk38 (z : Bool) : FIok Tryz.prog 38 (fi38 z) := fiOk_of _ Tryz.func38 (by kernel_rfl)
noncomputable def fi39 (z : Bool) : FI := fiOf Tryz.f39 ⟨[0, 1, 5], z⟩
theorem fiOk39 (z : Bool) : FIok Tryz.prog 39 (fi39 z) := fiOk_of _ Tryz.func39 (by kernel_rfl)
noncomputable def fi40 (z : Bool) : FI := fiOf Tryz.f40 ⟨[], z⟩
theorem fiOk40 (z : Bool) : FIok Tryz.prog 40 (fi40 z) := fiOk_of _ Tryz.func40 (by kernel_rfl)
noncomputable def fi41 (z : Bool) : FI := fiOf Tryz.f41 ⟨[0, 5, 6], z⟩
theorem fiOk41 (z : Bool) : FIok Tryz.prog 41 (fi41 z) := fiOk_of _ Tryz.func41 (by kernel_rfl)
noncomputable def fi42 (z : Bool) : FI := fiOf Tryz.f42 ⟨[], z⟩
theorem fiOk42 (z : Bool) : FIok Tryz.prog 42 (fi42 z) := fiOk_of _ Tryz.func42 (by kernel_rfl)
noncomputable def fi43 (z : Bool) : FI := fiOf Tryz.f43 ⟨[], z⟩
theorem fiOk43 (z : Bool) : FIok Tryz.prog 43 (fi43 z) := fiOk_of _ Tryz.func43 (by kernel_rfl)
noncomputable def fi45 (z : Bool) : FI := fiOf Tryz.f45 ⟨[], z⟩
theorem fiOk45 (z : Bool) : FIok Tryz.prog 45 (fi45 z) := fiOk_of _ Tryz.func45 (by kernel_rfl)
noncomputable def fi46 (z : Bool) : FI := fiOf Tryz.f46 ⟨[0, 3, 4], z⟩
theorem fiOk46 (z : Bool) : FIok Tryz.prog 46 (fi46 z) := fiOk_of _ Tryz.func46 (by kernel_rfl)
noncomputable def fi48 (z : Bool) : FI := fiOf Tryz.f48 ⟨[], z⟩
theorem fiOk48 (z : Bool) : FIok Tryz.prog 48 (fi48 z) := fiOk_of _ Tryz.func48 (by kernel_rfl)
noncomputable def fi49 (z : Bool) : FI := fiOf Tryz.f49 ⟨[], z⟩
theorem fiOk49 (z : Bool) : FIok Tryz.prog 49 (fi49 z) := fiOk_of _ Tryz.func49 (by kernel_rfl)
noncomputable def fi50 (z : Bool) : FI := fiOf Tryz.f50 ⟨[], z⟩
theorem fiOk50 (z : Bool) : FIok Tryz.prog 50 (fi50 z) := fiOk_of _ Tryz.func50 (by kernel_rfl)
noncomputable def fi51 (z : Bool) : FI := fiOf Tryz.f51 ⟨[], z⟩
theorem fiOk51 (z : Bool) : FIok Tryz.prog 51 (fi51 z) := fiOk_of _ Tryz.func51 (by kernel_rfl)
noncomputable def fi52 (z : Bool) : FI := fiOf Tryz.f52 ⟨[], z⟩
theorem fiOk52 (z : Bool) : FIok Tryz.prog 52 (fi52 z) := fiOk_of _ Tryz.func52 (by kernel_rfl)
noncomputable def fi53 (z : Bool) : FI := fiOf Tryz.f53 ⟨[0, 1, 2, 3, 9, 10], z⟩
theorem fiOk53 (z : Bool) : FIok Tryz.prog 53 (fi53 z) := fiOk_of _ Tryz.func53 (by kernel_rfl)
noncomputable def fi54 (z : Bool) : FI := fiOf Tryz.f54 ⟨[], z⟩
theorem fiOk54 (z : Bool) : FIok Tryz.prog 54 (fi54 z) := fiOk_of _ Tryz.func54 (by kernel_rfl)
noncomputable def fi55 (z : Bool) : FI := fiOf Tryz.f55 ⟨[], z⟩
theorem fiOk55 (z : Bool) : FIok Tryz.prog 55 (fi55 z) := fiOk_of _ Tryz.func55 (by kernel_rfl)
noncomputable def fi56 (z : Bool) : FI := fiOf Tryz.f56 ⟨[], z⟩
theorem fiOk56 (z : Bool) : FIok Tryz.prog 56 (fi56 z) := fiOk_of _ Tryz.func56 (by kernel_rfl)
noncomputable def fi57 (z : Bool) : FI := fiOf Tryz.f57 ⟨[], z⟩
theorem fiOk57 (z : Bool) : FIok Tryz.prog 57 (fi57 z) := fiOk_of _ Tryz.func57 (by kernel_rfl)
noncomputable def fi58 (z : Bool) : FI := fiOf Tryz.f58 ⟨[], z⟩
theorem fiOk58 (z : Bool) : FIok Tryz.prog 58 (fi58 z) := fiOk_of _ Tryz.func58 (by kernel_rfl)
noncomputable def fi59 (z : Bool) : FI := fiOf Tryz.f59 ⟨[3, 10, 11, 12], z⟩
theorem fiOk59 (z : Bool) : FIok Tryz.prog 59 (fi59 z) := fiOk_of _ Tryz.func59 (by kernel_rfl)
noncomputable def fi60 (z : Bool) : FI := fiOf Tryz.f60 ⟨[], z⟩
theorem fiOk60 (z : Bool) : FIok Tryz.prog 60 (fi60 z) := fiOk_of _ Tryz.func60 (by kernel_rfl)
noncomputable def fi61 (z : Bool) : FI := fiOf Tryz.f61 ⟨[0, 5, 6], z⟩
theorem fiOk61 (z : Bool) : FIok Tryz.prog 61 (fi61 z) := fiOk_of _ Tryz.func61 (by kernel_rfl)
noncomputable def fi62 (z : Bool) : FI := fiOf Tryz.f62 ⟨[], z⟩
theorem fiOk62 (z : Bool) : FIok Tryz.prog 62 (fi62 z) := fiOk_of _ Tryz.func62 (by kernel_rfl)
noncomputable def fi64 (z : Bool) : FI := fiOf Tryz.f64 ⟨[], z⟩
theorem fiOk64 (z : Bool) : FIok Tryz.prog 64 (fi64 z) := fiOk_of _ Tryz.func64 (by kernel_rfl)
noncomputable def fi65 (z : Bool) : FI := fiOf Tryz.f65 ⟨[], z⟩
theorem fiOk65 (z : Bool) : FIok Tryz.prog 65 (fi65 z) := fiOk_of _ Tryz.func65 (by kernel_rfl)
noncomputable def fi66 (z : Bool) : FI := fiOf Tryz.f66 ⟨[], z⟩
theorem fiOk66 (z : Bool) : FIok Tryz.prog 66 (fi66 z) := fiOk_of _ Tryz.func66 (by kernel_rfl)
noncomputable def fi67 (z : Bool) : FI := fiOf Tryz.f67 ⟨[], z⟩
theorem fiOk67 (z : Bool) : FIok Tryz.prog 67 (fi67 z) := fiOk_of _ Tryz.func67 (by kernel_rfl)
noncomputable def fi68 (z : Bool) : FI := fiOf Tryz.f68 ⟨[], z⟩
theorem fiOk68 (z : Bool) : FIok Tryz.prog 68 (fi68 z) := fiOk_of _ Tryz.func68 (by kernel_rfl)
noncomputable def fi69 (z : Bool) : FI := fiOf Tryz.f69 ⟨[0, 1, 6, 7], z⟩
theorem fiOk69 (z : Bool) : FIok Tryz.prog 69 (fi69 z) := fiOk_of _ Tryz.func69 (by kernel_rfl)
noncomputable def fi70 (z : Bool) : FI := fiOf Tryz.f70 ⟨[0, 1, 5], z⟩
theorem fiOk70 (z : Bool) : FIok Tryz.prog 70 (fi70 z) := fiOk_of _ Tryz.func70 (by kernel_rfl)
noncomputable def fi71 (z : Bool) : FI := fiOf Tryz.f71 ⟨[], z⟩
theorem fiOk71 (z : Bool) : FIok Tryz.prog 71 (fi71 z) := fiOk_of _ Tryz.func71 (by kernel_rfl)
noncomputable def fi72 (z : Bool) : FI := fiOf Tryz.f72 ⟨[], z⟩
theorem fiOk72 (z : Bool) : FIok Tryz.prog 72 (fi72 z) := fiOk_of _ Tryz.func72 (by kernel_rfl)
noncomputable def fi73 (z : Bool) : FI := fiOf Tryz.f73 ⟨[], z⟩
theorem fiOk73 (z : Bool) : FIok Tryz.prog 73 (fi73 z) := fiOk_of _ Tryz.func73 (by kernel_rfl)
noncomputable def fi74 (z : Bool) : FI := fiOf Tryz.f74 ⟨[], z⟩
theorem fiOk74 (z : Bool) : FIok Tryz.prog 74 (fi74 z) := fiOk_of _ Tryz.func74 (by kernel_rfl)
noncomputable def fi75 (z : Bool) : FI := fiOf Tryz.f75 ⟨[], z⟩
theorem fiOk75 (z : Bool) : FIok Tryz.prog 75 (fi75 z) := fiOk_of _ Tryz.func75 (by kernel_rfl)
noncomputable def fi76 (z : Bool) : FI := fiOf Tryz.f76 ⟨[], z⟩
theorem fiOk76 (z : Bool) : FIok Tryz.prog 76 (fi76 z) := fiOk_of _ Tryz.func76 (by kernel_rfl)
noncomputable def fi77 (z : Bool) : FI := fiOf Tryz.f77 ⟨[5, 6, 47, 48, 49], z⟩
theorem fiOk77 (z : Bool) : FIok Tryz.prog 77 (fi77 z) := fiOk_of _ Tryz.func77 (by kernel_rfl)
noncomputable def fi78 (z : Bool) : FI := fiOf Tryz.f78 ⟨[], z⟩
theorem fiOk78 (z : Bool) : FIok Tryz.prog 78 (fi78 z) := fiOk_of _ Tryz.func78 (by kernel_rfl)
noncomputable def fi79 (z : Bool) : FI := fiOf Tryz.f79 ⟨[], z⟩
theorem fiOk79 (z : Bool) : FIok Tryz.prog 79 (fi79 z) := fiOk_of _ Tryz.func79 (by kernel_rfl)
noncomputable def fi80 (z : Bool) : FI := fiOf Tryz.f80 ⟨[], z⟩
theorem fiOk80 (z : Bool) : FIok Tryz.prog 80 (fi80 z) := fiOk_of _ Tryz.func80 (by kernel_rfl)
noncomputable def fi81 (z : Bool) : FI := fiOf Tryz.f81 ⟨[], z⟩
theorem fiOk81 (z : Bool) : FIok Tryz.prog 81 (fi81 z) := fiOk_of _ Tryz.func81 (by kernel_rfl)
noncomputable def fi82 (z : Bool) : FI := fiOf Tryz.f82 ⟨[], z⟩
theorem fiOk82 (z : Bool) : FIok Tryz.prog 82 (fi82 z) := fiOk_of _ Tryz.func82 (by kernel_rfl)
noncomputable def fi83 (z : Bool) : FI := fiOf Tryz.f83 ⟨[], z⟩
theorem fiOk83 (z : Bool) : FIok Tryz.prog 83 (fi83 z) := fiOk_of _ Tryz.func83 (by kernel_rfl)
noncomputable def fi84 (z : Bool) : FI := fiOf Tryz.f84 ⟨[], z⟩
theorem fiOk84 (z : Bool) : FIok Tryz.prog 84 (fi84 z) := fiOk_of _ Tryz.func84 (by kernel_rfl)
noncomputable def fi85 (z : Bool) : FI := fiOf Tryz.f85 ⟨[0, 1, 4], z⟩
theorem fiOk85 (z : Bool) : FIok Tryz.prog 85 (fi85 z) := fiOk_of _ Tryz.func85 (by kernel_rfl)
noncomputable def fi86 (z : Bool) : FI := fiOf Tryz.f86 ⟨[0, 1, 3, 4, 10, 11, 12, 13, 14, 15, 16, 17], z⟩
theorem fiOk86 (z : Bool) : FIok Tryz.prog 86 (fi86 z) := fiOk_of _ Tryz.func86 (by kernel_rfl)
noncomputable def fi87 (z : Bool) : FI := fiOf Tryz.f87 ⟨[2, 4], z⟩
theorem fiOk87 (z : Bool) : FIok Tryz.prog 87 (fi87 z) := fiOk_of _ Tryz.func87 (by kernel_rfl)
noncomputable def fi88 (z : Bool) : FI := fiOf Tryz.f88 ⟨[], z⟩
theorem fiOk88 (z : Bool) : FIok Tryz.prog 88 (fi88 z) := fiOk_of _ Tryz.func88 (by kernel_rfl)
noncomputable def fi90 (z : Bool) : FI := fiOf Tryz.f90 ⟨[0, 1, 5, 6, 7, 8, 9, 10], z⟩
theorem fiOk90 (z : Bool) : FIok Tryz.prog 90 (fi90 z) := fiOk_of _ Tryz.func90 (by kernel_rfl)
noncomputable def fi91 (z : Bool) : FI := fiOf Tryz.f91 ⟨[], z⟩
theorem fiOk91 (z : Bool) : FIok Tryz.prog 91 (fi91 z) := fiOk_of _ Tryz.func91 (by kernel_rfl)
noncomputable def fi92 (z : Bool) : FI := fiOf Tryz.f92 ⟨[], z⟩
theorem fiOk92 (z : Bool) : FIok Tryz.prog 92 (fi92 z) := fiOk_of _ Tryz.func92 (by kernel_rfl)
noncomputable def fi93 (z : Bool) : FI := fiOf Tryz.f93 ⟨[1, 8, 9, 10, 11, 12, 13, 99, 100, 101], z⟩
theorem fiOk93 (z : Bool) : FIok Tryz.prog 93 (fi93 z) := fiOk_of _ Tryz.func93 (by kernel_rfl)
noncomputable def fi94 (z : Bool) : FI := fiOf Tryz.f94 ⟨[], z⟩
theorem fiOk94 (z : Bool) : FIok Tryz.prog 94 (fi94 z) := fiOk_of _ Tryz.func94 (by kernel_rfl)
noncomputable def fi95 (z : Bool) : FI := fiOf Tryz.f95 ⟨[], z⟩
theorem fiOk95 (z : Bool) : FIok Tryz.prog 95 (fi95 z) := fiOk_of _ Tryz.func95 (by kernel_rfl)
noncomputable def fi96 (z : Bool) : FI := fiOf Tryz.f96 ⟨[], z⟩
theorem fiOk96 (z : Bool) : FIok Tryz.prog 96 (fi96 z) := fiOk_of _ Tryz.func96 (by kernel_rfl)
noncomputable def fi97 (z : Bool) : FI := fiOf Tryz.f97 ⟨[], z⟩
theorem fiOk97 (z : Bool) : FIok Tryz.prog 97 (fi97 z) := fiOk_of _ Tryz.func97 (by kernel_rfl)
noncomputable def fi98 (z : Bool) : FI := fiOf Tryz.f98 ⟨[], z⟩
theorem fiOk98 (z : Bool) : FIok Tryz.prog 98 (fi98 z) := fiOk_of _ Tryz.func98 (by kernel_rfl)
noncomputable def fi99 (z : Bool) : FI := fiOf Tryz.f99 ⟨[], z⟩
theorem fiOk99 (z : Bool) : FIok Tryz.prog 99 (fi99 z) := fiOk_of _ Tryz.func99 (by kernel_rfl)
noncomputable def fi100 (z : Bool) : FI := fiOf Tryz.f100 ⟨[], z⟩
theorem fiOk100 (z : Bool) : FIok Tryz.prog 100 (fi100 z) := fiOk_of _ Tryz.func100 (by kernel_rfl)
noncomputable def fi102 (z : Bool) : FI := fiOf Tryz.f102 ⟨[], z⟩
theorem fiOk102 (z : Bool) : FIok Tryz.prog 102 (fi102 z) := fiOk_of _ Tryz.func102 (by kernel_rfl)
noncomputable def fi103 (z : Bool) : FI := fiOf Tryz.f103 ⟨[], z⟩
theorem fiOk103 (z : Bool) : FIok Tryz.prog 103 (fi103 z) := fiOk_of _ Tryz.func103 (by kernel_rfl)
noncomputable def fi104 (z : Bool) : FI := fiOf Tryz.f104 ⟨[], z⟩
theorem fiOk104 (z : Bool) : FIok Tryz.prog 104 (fi104 z) := fiOk_of _ Tryz.func104 (by kernel_rfl)
noncomputable def fi105 (z : Bool) : FI := fiOf Tryz.f105 ⟨[], z⟩
theorem fiOk105 (z : Bool) : FIok Tryz.prog 105 (fi105 z) := fiOk_of _ Tryz.func105 (by kernel_rfl)
noncomputable def fi106 (z : Bool) : FI := fiOf Tryz.f106 ⟨[], z⟩
theorem fiOk106 (z : Bool) : FIok Tryz.prog 106 (fi106 z) := fiOk_of _ Tryz.func106 (by kernel_rfl)
noncomputable def fi107 (z : Bool) : FI := fiOf Tryz.f107 ⟨[], z⟩
theorem fiOk107 (z : Bool) : FIok Tryz.prog 107 (fi107 z) := fiOk_of _ Tryz.func107 (by kernel_rfl)
noncomputable def fi108 (z : Bool) : FI := fiOf Tryz.f108 ⟨[], z⟩
theorem fiOk108 (z : Bool) : FIok Tryz.prog 108 (fi108 z) := fiOk_of _ Tryz.func108 (by kernel_rfl)
noncomputable def fi110 (z : Bool) : FI := fiOf Tryz.f110 ⟨[], z⟩
theorem fiOk110 (z : Bool) : FIok Tryz.prog 110 (fi110 z) := fiOk_of _ Tryz.func110 (by kernel_rfl)
noncomputable def fi111 (z : Bool) : FI := fiOf Tryz.f111 ⟨[0, 1, 5, 6, 7, 8, 9, 10], z⟩
theorem fiOk111 (z : Bool) : FIok Tryz.prog 111 (fi111 z) := fiOk_of _ Tryz.func111 (by kernel_rfl)
noncomputable def fi112 (z : Bool) : FI := fiOf Tryz.f112 ⟨[], z⟩
theorem fiOk112 (z : Bool) : FIok Tryz.prog 112 (fi112 z) := fiOk_of _ Tryz.func112 (by kernel_rfl)
noncomputable def fi113 (z : Bool) : FI := fiOf Tryz.f113 ⟨[0, 3, 4, 5], z⟩
theorem fiOk113 (z : Bool) : FIok Tryz.prog 113 (fi113 z) := fiOk_of _ Tryz.func113 (by kernel_rfl)
noncomputable def fi114 (z : Bool) : FI := fiOf Tryz.f114 ⟨[], z⟩
theorem fiOk114 (z : Bool) : FIok Tryz.prog 114 (fi114 z) := fiOk_of _ Tryz.func114 (by kernel_rfl)
noncomputable def fi115 (z : Bool) : FI := fiOf Tryz.f115 ⟨[], z⟩
theorem fiOk115 (z : Bool) : FIok Tryz.prog 115 (fi115 z) := fiOk_of _ Tryz.func115 (by kernel_rfl)
noncomputable def fi116 (z : Bool) : FI := fiOf Tryz.f116 ⟨[], z⟩
theorem fiOk116 (z : Bool) : FIok Tryz.prog 116 (fi116 z) := fiOk_of _ Tryz.func116 (by kernel_rfl)
noncomputable def fi117 (z : Bool) : FI := fiOf Tryz.f117 ⟨[], z⟩
theorem fiOk117 (z : Bool) : FIok Tryz.prog 117 (fi117 z) := fiOk_of _ Tryz.func117 (by kernel_rfl)
noncomputable def fi118 (z : Bool) : FI := fiOf Tryz.f118 ⟨[], z⟩
theorem fiOk118 (z : Bool) : FIok Tryz.prog 118 (fi118 z) := fiOk_of _ Tryz.func118 (by kernel_rfl)
noncomputable def fi120 (z : Bool) : FI := fiOf Tryz.f120 ⟨[0, 4, 5, 6, 7, 8], z⟩
theorem fiOk120 (z : Bool) : FIok Tryz.prog 120 (fi120 z) := fiOk_of _ Tryz.func120 (by kernel_rfl)
noncomputable def fns (z : Bool) : Tr FI := (.node 62 (.node 33 (.node 16 (.node 9 (.node 6 (.node 4 (.leaf 3 (fi3 z)) (.node 5 (.leaf 4 (fi4 z)) (.leaf 5 (fi5 z)))) (.node 7 (.leaf 6 (fi6 z)) (.node 8 (.leaf 7 (fi7 z)) (.leaf 8 (fi8 z))))) (.node 12 (.node 10 (.leaf 9 (fi9 z)) (.node 11 (.leaf 10 (fi10 z)) (.leaf 11 (fi11 z)))) (.node 14 (.node 13 (.leaf 12 (fi12 z)) (.leaf 13 (fi13 z))) (.node 15 (.leaf 14 (fi14 z)) (.leaf 15 (fi15 z)))))) (.node 25 (.node 21 (.node 17 (.leaf 16 (fi16 z)) (.node 18 (.leaf 17 (fi17 z)) (.leaf 18 (fi18 z)))) (.node 23 (.node 22 (.leaf 21 (fi21 z)) (.leaf 22 (fi22 z))) (.node 24 (.leaf 23 (fi23 z)) (.leaf 24 (fi24 z))))) (.node 28 (.node 26 (.leaf 25 (fi25 z)) (.node 27 (.leaf 26 (fi26 z)) (.leaf 27 (fi27 z)))) (.node 31 (.node 29 (.leaf 28 (fi28 z)) (.leaf 29 (fi29 z))) (.node 32 (.leaf 31 (fi31 z)) (.leaf 32 (fi32 z))))))) (.node 48 (.node 39 (.node 36 (.node 34 (.leaf 33 (fi33 z)) (.node 35 (.leaf 34 (fi34 z)) (.leaf 35 (fi35 z)))) (.node 37 (.leaf 36 (fi36 z)) (.node 38 (.leaf 37 (fi37 z)) (.leaf 38 (fi38 z))))) (.node 42 (.node 40 (.leaf 39 (fi39 z)) (.node 41 (.leaf 40 (fi40 z)) (.leaf 41 (fi41 z)))) (.node 45 (.node 43 (.leaf 42 (fi42 z)) (.leaf 43 (fi43 z))) (.node 46 (.leaf 45 (fi45 z)) (.leaf 46 (fi46 z)))))) (.node 55 (.node 51 (.node 49 (.leaf 48 (fi48 z)) (.node 50 (.leaf 49 (fi49 z)) (.leaf 50 (fi50 z)))) (.node 53 (.node 52 (.leaf 51 (fi51 z)) (.leaf 52 (fi52 z))) (.node 54 (.leaf 53 (fi53 z)) (.leaf 54 (fi54 z))))) (.node 58 (.node 56 (.leaf 55 (fi55 z)) (.node 57 (.leaf 56 (fi56 z)) (.leaf 57 (fi57 z)))) (.node 60 (.node 59 (.leaf 58 (fi58 z)) (.leaf 59 (fi59 z))) (.node 61 (.leaf 60 (fi60 z)) (.leaf 61 (fi61 z)))))))) (.node 91 (.node 76 (.node 69 (.node 66 (.node 64 (.leaf 62 (fi62 z)) (.node 65 (.leaf 64 (fi64 z)) (.leaf 65 (fi65 z)))) (.node 67 (.leaf 66 (fi66 z)) (.node 68 (.leaf 67 (fi67 z)) (.leaf 68 (fi68 z))))) (.node 72 (.node 70 (.leaf 69 (fi69 z)) (.node 71 (.leaf 70 (fi70 z)) (.leaf 71 (fi71 z)))) (.node 74 (.node 73 (.leaf 72 (fi72 z)) (.leaf 73 (fi73 z))) (.node 75 (.leaf 74 (fi74 z)) (.leaf 75 (fi75 z)))))) (.node 83 (.node 79 (.node 77 (.leaf 76 (fi76 z)) (.node 78 (.leaf 77 (fi77 z)) (.leaf 78 (fi78 z)))) (.node 81 (.node 80 (.leaf 79 (fi79 z)) (.leaf 80 (fi80 z))) (.node 82 (.leaf 81 (fi81 z)) (.leaf 82 (fi82 z))))) (.node 86 (.node 84 (.leaf 83 (fi83 z)) (.node 85 (.leaf 84 (fi84 z)) (.leaf 85 (fi85 z)))) (.node 88 (.node 87 (.leaf 86 (fi86 z)) (.leaf 87 (fi87 z))) (.node 90 (.leaf 88 (fi88 z)) (.leaf 90 (fi90 z))))))) (.node 105 (.node 97 (.node 94 (.node 92 (.leaf 91 (fi91 z)) (.node 93 (.leaf 92 (fi92 z)) (.leaf 93 (fi93 z)))) (.node 95 (.leaf 94 (fi94 z)) (.node 96 (.leaf 95 (fi95 z)) (.leaf 96 (fi96 z))))) (.node 100 (.node 98 (.leaf 97 (fi97 z)) (.node 99 (.leaf 98 (fi98 z)) (.leaf 99 (fi99 z)))) (.node 103 (.node 102 (.leaf 100 (fi100 z)) (.leaf 102 (fi102 z))) (.node 104 (.leaf 103 (fi103 z)) (.leaf 104 (fi104 z)))))) (.node 113 (.node 108 (.node 106 (.leaf 105 (fi105 z)) (.node 107 (.leaf 106 (fi106 z)) (.leaf 107 (fi107 z)))) (.node 111 (.node 110 (.leaf 108 (fi108 z)) (.leaf 110 (fi110 z))) (.node 112 (.leaf 111 (fi111 z)) (.leaf 112 (fi112 z))))) (.node 116 (.node 114 (.leaf 113 (fi113 z)) (.node 115 (.leaf 114 (fi114 z)) (.leaf 115 (fi115 z)))) (.node 118 (.node 117 (.leaf 116 (fi116 z)) (.leaf 117 (fi117 z))) (.node 120 (.leaf 118 (fi118 z)) (.leaf 120 (fi120 z)))))))))
theorem fok (z : Bool) : FOk Tryz.prog (fns z).get := fOk_of (t := fns z) (⟨⟨⟨⟨⟨⟨fiOk3 z, ⟨fiOk4 z, fiOk5 z⟩⟩, ⟨fiOk6 z, ⟨fiOk7 z, fiOk8 z⟩⟩⟩, ⟨⟨fiOk9 z, ⟨fiOk10 z, fiOk11 z⟩⟩, ⟨⟨fiOk12 z, fiOk13 z⟩, ⟨fiOk14 z, fiOk15 z⟩⟩⟩⟩, ⟨⟨⟨fiOk16 z, ⟨fiOk17 z, fiOk18 z⟩⟩, ⟨⟨fiOk21 z, fiOk22 z⟩, ⟨fiOk23 z, fiOk24 z⟩⟩⟩, ⟨⟨fiOk25 z, ⟨fiOk26 z, fiOk27 z⟩⟩, ⟨⟨fiOk28 z, fiOk29 z⟩, ⟨fiOk31 z, fiOk32 z⟩⟩⟩⟩⟩, ⟨⟨⟨⟨fiOk33 z, ⟨fiOk34 z, fiOk35 z⟩⟩, ⟨fiOk36 z, ⟨fiOk37 z, fiOk38 z⟩⟩⟩, ⟨⟨fiOk39 z, ⟨fiOk40 z, fiOk41 z⟩⟩, ⟨⟨fiOk42 z, fiOk43 z⟩, ⟨fiOk45 z, fiOk46 z⟩⟩⟩⟩, ⟨⟨⟨fiOk48 z, ⟨fiOk49 z, fiOk50 z⟩⟩, ⟨⟨fiOk51 z, fiOk52 z⟩, ⟨fiOk53 z, fiOk54 z⟩⟩⟩, ⟨⟨fiOk55 z, ⟨fiOk56 z, fiOk57 z⟩⟩, ⟨⟨fiOk58 z, fiOk59 z⟩, ⟨fiOk60 z, fiOk61 z⟩⟩⟩⟩⟩⟩, ⟨⟨⟨⟨⟨fiOk62 z, ⟨fiOk64 z, fiOk65 z⟩⟩, ⟨fiOk66 z, ⟨fiOk67 z, fiOk68 z⟩⟩⟩, ⟨⟨fiOk69 z, ⟨fiOk70 z, fiOk71 z⟩⟩, ⟨⟨fiOk72 z, fiOk73 z⟩, ⟨fiOk74 z, fiOk75 z⟩⟩⟩⟩, ⟨⟨⟨fiOk76 z, ⟨fiOk77 z, fiOk78 z⟩⟩, ⟨⟨fiOk79 z, fiOk80 z⟩, ⟨fiOk81 z, fiOk82 z⟩⟩⟩, ⟨⟨fiOk83 z, ⟨fiOk84 z, fiOk85 z⟩⟩, ⟨⟨fiOk86 z, fiOk87 z⟩, ⟨fiOk88 z, fiOk90 z⟩⟩⟩⟩⟩, ⟨⟨⟨⟨fiOk91 z, ⟨fiOk92 z, fiOk93 z⟩⟩, ⟨fiOk94 z, ⟨fiOk95 z, fiOk96 z⟩⟩⟩, ⟨⟨fiOk97 z, ⟨fiOk98 z, fiOk99 z⟩⟩, ⟨⟨fiOk100 z, fiOk102 z⟩, ⟨fiOk103 z, fiOk104 z⟩⟩⟩⟩, ⟨⟨⟨fiOk105 z, ⟨fiOk106 z, fiOk107 z⟩⟩, ⟨⟨fiOk108 z, fiOk110 z⟩, ⟨fiOk111 z, fiOk112 z⟩⟩⟩, ⟨⟨fiOk113 z, ⟨fiOk114 z, fiOk115 z⟩⟩, ⟨⟨fiOk116 z, fiOk117 z⟩, ⟨fiOk118 z, fiOk120 z⟩⟩⟩⟩⟩⟩⟩)
theorem hmix : Tryz.prog.follows .mixedOrders = true := by kernel_rfl
end Go.Proofs.TabZ
