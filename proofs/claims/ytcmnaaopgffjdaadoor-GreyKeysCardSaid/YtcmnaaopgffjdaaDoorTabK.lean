/- The table of types and functions, proved to be the code of the program; without conditions. -/
import Derived.Test.YtcmnaaopgffjdaaDoorEngMc
import Derived.Test.YtcmnaaopgffjdaaDoorProg
import Derived.KernelRfl
set_option linter.all false
set_option linter.deprecated false
set_option autoImplicit false
set_option maxRecDepth 100000
namespace Go.Proofs.TabK
open Go Go.Eng Go.Proofs
noncomputable def ti2 : TI := ⟨.leaf, 1, 8, [.i .i64 0], .int .i64, false, [.int .i64]⟩
theorem tiOk2 : mkTI Tryd.prog 2 ti2.cmp = { ti2 with kinds := [] } := by kernel_rfl
noncomputable def ti3 : TI := ⟨.leaf, 1, 8, [.i .i64 0], .int .i64, false, [.int .i64]⟩
theorem tiOk3 : mkTI Tryd.prog 3 ti3.cmp = { ti3 with kinds := [] } := by kernel_rfl
noncomputable def ti4 : TI := ⟨.leaf, 1, 1, [.b false], .bool, false, [.bool]⟩
theorem tiOk4 : mkTI Tryd.prog 4 ti4.cmp = { ti4 with kinds := [] } := by kernel_rfl
noncomputable def ti5 : TI := ⟨.leaf, 1, 1, [.i .u8 0], .int .u8, false, [.int .u8]⟩
theorem tiOk5 : mkTI Tryd.prog 5 ti5.cmp = { ti5 with kinds := [] } := by kernel_rfl
noncomputable def ti9 : TI := ⟨.str, 1, 16, [.s ByteArray.empty], .str, false, [.str]⟩
theorem tiOk9 : mkTI Tryd.prog 9 ti9.cmp = { ti9 with kinds := [] } := by kernel_rfl
noncomputable def ti22 : TI := ⟨.sl 24, 1, 24, [.v (.slice none 0 0)], .other, false, [.other]⟩
theorem tiOk22 : mkTI Tryd.prog 22 ti22.cmp = { ti22 with kinds := [] } := by kernel_rfl
noncomputable def ti24 : TI := ⟨.st [(0, 9, 1), (1, 3, 1), (2, 3, 1)], 3, 32, [.s ByteArray.empty, .i .i64 0, .i .i64 0], .other, true, [.str, .int .i64, .int .i64]⟩
theorem tiOk24 : mkTI Tryd.prog 24 ti24.cmp = { ti24 with kinds := [] } := by kernel_rfl
noncomputable def ti25 : TI := ⟨.leaf, 1, 8, [.i .i64 0], .int .i64, false, [.int .i64]⟩
theorem tiOk25 : mkTI Tryd.prog 25 ti25.cmp = { ti25 with kinds := [] } := by kernel_rfl
noncomputable def ti50 : TI := ⟨.sl 83, 1, 24, [.v (.slice none 0 0)], .other, false, [.other]⟩
theorem tiOk50 : mkTI Tryd.prog 50 ti50.cmp = { ti50 with kinds := [] } := by kernel_rfl
noncomputable def ti55 : TI := ⟨.sl 5, 1, 24, [.v (.slice none 0 0)], .other, false, [.other]⟩
theorem tiOk55 : mkTI Tryd.prog 55 ti55.cmp = { ti55 with kinds := [] } := by kernel_rfl
noncomputable def ti83 : TI := ⟨.st [(0, 9, 1), (1, 3, 1), (2, 3, 1), (3, 4, 1)], 4, 40, [.s ByteArray.empty, .i .i64 0, .i .i64 0, .b false], .other, true, [.str, .int .i64, .int .i64, .bool]⟩
theorem tiOk83 : mkTI Tryd.prog 83 ti83.cmp = { ti83 with kinds := [] } := by kernel_rfl
noncomputable def ti86 : TI := ⟨.leaf, 1, 8, [.v .nilFunc], .fnc, false, [.other]⟩
theorem tiOk86 : mkTI Tryd.prog 86 ti86.cmp = { ti86 with kinds := [] } := by kernel_rfl
noncomputable def ti96 : TI := ⟨.arr 24 5, 24, 24, [.i .u8 0, .i .u8 0, .i .u8 0, .i .u8 0, .i .u8 0, .i .u8 0, .i .u8 0, .i .u8 0, .i .u8 0, .i .u8 0, .i .u8 0, .i .u8 0, .i .u8 0, .i .u8 0, .i .u8 0, .i .u8 0, .i .u8 0, .i .u8 0, .i .u8 0, .i .u8 0, .i .u8 0, .i .u8 0, .i .u8 0, .i .u8 0], .other, false, [.int .u8, .int .u8, .int .u8, .int .u8, .int .u8, .int .u8, .int .u8, .int .u8, .int .u8, .int .u8, .int .u8, .int .u8, .int .u8, .int .u8, .int .u8, .int .u8, .int .u8, .int .u8, .int .u8, .int .u8, .int .u8, .int .u8, .int .u8, .int .u8]⟩
theorem tiOk96 : mkTI Tryd.prog 96 ti96.cmp = { ti96 with kinds := [] } := by kernel_rfl
noncomputable def ti97 : TI := ⟨.leaf, 1, 8, [.i .u64 0], .int .u64, false, [.int .u64]⟩
theorem tiOk97 : mkTI Tryd.prog 97 ti97.cmp = { ti97 with kinds := [] } := by kernel_rfl
noncomputable def ti105 : TI := ⟨.leaf, 1, 8, [.v .nilFunc], .fnc, false, [.other]⟩
theorem tiOk105 : mkTI Tryd.prog 105 ti105.cmp = { ti105 with kinds := [] } := by kernel_rfl
noncomputable def ti110 : TI := ⟨.arr 20 97, 20, 160, [.i .u64 0, .i .u64 0, .i .u64 0, .i .u64 0, .i .u64 0, .i .u64 0, .i .u64 0, .i .u64 0, .i .u64 0, .i .u64 0, .i .u64 0, .i .u64 0, .i .u64 0, .i .u64 0, .i .u64 0, .i .u64 0, .i .u64 0, .i .u64 0, .i .u64 0, .i .u64 0], .other, false, [.int .u64, .int .u64, .int .u64, .int .u64, .int .u64, .int .u64, .int .u64, .int .u64, .int .u64, .int .u64, .int .u64, .int .u64, .int .u64, .int .u64, .int .u64, .int .u64, .int .u64, .int .u64, .int .u64, .int .u64]⟩
theorem tiOk110 : mkTI Tryd.prog 110 ti110.cmp = { ti110 with kinds := [] } := by kernel_rfl
noncomputable def ti111 : TI := ⟨.leaf, 1, 4, [.i .u32 0], .int .u32, false, [.int .u32]⟩
theorem tiOk111 : mkTI Tryd.prog 111 ti111.cmp = { ti111 with kinds := [] } := by kernel_rfl
noncomputable def ti112 : TI := ⟨.arr 65 5, 65, 65, [.i .u8 0, .i .u8 0, .i .u8 0, .i .u8 0, .i .u8 0, .i .u8 0, .i .u8 0, .i .u8 0, .i .u8 0, .i .u8 0, .i .u8 0, .i .u8 0, .i .u8 0, .i .u8 0, .i .u8 0, .i .u8 0, .i .u8 0, .i .u8 0, .i .u8 0, .i .u8 0, .i .u8 0, .i .u8 0, .i .u8 0, .i .u8 0, .i .u8 0, .i .u8 0, .i .u8 0, .i .u8 0, .i .u8 0, .i .u8 0, .i .u8 0, .i .u8 0, .i .u8 0, .i .u8 0, .i .u8 0, .i .u8 0, .i .u8 0, .i .u8 0, .i .u8 0, .i .u8 0, .i .u8 0, .i .u8 0, .i .u8 0, .i .u8 0, .i .u8 0, .i .u8 0, .i .u8 0, .i .u8 0, .i .u8 0, .i .u8 0, .i .u8 0, .i .u8 0, .i .u8 0, .i .u8 0, .i .u8 0, .i .u8 0, .i .u8 0, .i .u8 0, .i .u8 0, .i .u8 0, .i .u8 0, .i .u8 0, .i .u8 0, .i .u8 0, .i .u8 0], .other, false, [.int .u8, .int .u8, .int .u8, .int .u8, .int .u8, .int .u8, .int .u8, .int .u8, .int .u8, .int .u8, .int .u8, .int .u8, .int .u8, .int .u8, .int .u8, .int .u8, .int .u8, .int .u8, .int .u8, .int .u8, .int .u8, .int .u8, .int .u8, .int .u8, .int .u8, .int .u8, .int .u8, .int .u8, .int .u8, .int .u8, .int .u8, .int .u8, .int .u8, .int .u8, .int .u8, .int .u8, .int .u8, .int .u8, .int .u8, .int .u8, .int .u8, .int .u8, .int .u8, .int .u8, .int .u8, .int .u8, .int .u8, .int .u8, .int .u8, .int .u8, .int .u8, .int .u8, .int .u8, .int .u8, .int .u8, .int .u8, .int .u8, .int .u8, .int .u8, .int .u8, .int .u8, .int .u8, .int .u8, .int .u8, .int .u8]⟩
theorem tiOk112 : mkTI Tryd.prog 112 ti112.cmp = { ti112 with kinds := [] } := by kernel_rfl
noncomputable def ti114 : TI := ⟨.leaf, 1, 8, [.i .u64 0], .int .u64, false, [.int .u64]⟩
theorem tiOk114 : mkTI Tryd.prog 114 ti114.cmp = { ti114 with kinds := [] } := by kernel_rfl
noncomputable def ti118 : TI := ⟨.arr 32 5, 32, 32, [.i .u8 0, .i .u8 0, .i .u8 0, .i .u8 0, .i .u8 0, .i .u8 0, .i .u8 0, .i .u8 0, .i .u8 0, .i .u8 0, .i .u8 0, .i .u8 0, .i .u8 0, .i .u8 0, .i .u8 0, .i .u8 0, .i .u8 0, .i .u8 0, .i .u8 0, .i .u8 0, .i .u8 0, .i .u8 0, .i .u8 0, .i .u8 0, .i .u8 0, .i .u8 0, .i .u8 0, .i .u8 0, .i .u8 0, .i .u8 0, .i .u8 0, .i .u8 0], .other, false, [.int .u8, .int .u8, .int .u8, .int .u8, .int .u8, .int .u8, .int .u8, .int .u8, .int .u8, .int .u8, .int .u8, .int .u8, .int .u8, .int .u8, .int .u8, .int .u8, .int .u8, .int .u8, .int .u8, .int .u8, .int .u8, .int .u8, .int .u8, .int .u8, .int .u8, .int .u8, .int .u8, .int .u8, .int .u8, .int .u8, .int .u8, .int .u8]⟩
theorem tiOk118 : mkTI Tryd.prog 118 ti118.cmp = { ti118 with kinds := [] } := by kernel_rfl
noncomputable def ti119 : TI := ⟨.arr 64 5, 64, 64, [.i .u8 0, .i .u8 0, .i .u8 0, .i .u8 0, .i .u8 0, .i .u8 0, .i .u8 0, .i .u8 0, .i .u8 0, .i .u8 0, .i .u8 0, .i .u8 0, .i .u8 0, .i .u8 0, .i .u8 0, .i .u8 0, .i .u8 0, .i .u8 0, .i .u8 0, .i .u8 0, .i .u8 0, .i .u8 0, .i .u8 0, .i .u8 0, .i .u8 0, .i .u8 0, .i .u8 0, .i .u8 0, .i .u8 0, .i .u8 0, .i .u8 0, .i .u8 0, .i .u8 0, .i .u8 0, .i .u8 0, .i .u8 0, .i .u8 0, .i .u8 0, .i .u8 0, .i .u8 0, .i .u8 0, .i .u8 0, .i .u8 0, .i .u8 0, .i .u8 0, .i .u8 0, .i .u8 0, .i .u8 0, .i .u8 0, .i .u8 0, .i .u8 0, .i .u8 0, .i .u8 0, .i .u8 0, .i .u8 0, .i .u8 0, .i .u8 0, .i .u8 0, .i .u8 0, .i .u8 0, .i .u8 0, .i .u8 0, .i .u8 0, .i .u8 0], .other, false, [.int .u8, .int .u8, .int .u8, .int .u8, .int .u8, .int .u8, .int .u8, .int .u8, .int .u8, .int .u8, .int .u8, .int .u8, .int .u8, .int .u8, .int .u8, .int .u8, .int .u8, .int .u8, .int .u8, .int .u8, .int .u8, .int .u8, .int .u8, .int .u8, .int .u8, .int .u8, .int .u8, .int .u8, .int .u8, .int .u8, .int .u8, .int .u8, .int .u8, .int .u8, .int .u8, .int .u8, .int .u8, .int .u8, .int .u8, .int .u8, .int .u8, .int .u8, .int .u8, .int .u8, .int .u8, .int .u8, .int .u8, .int .u8, .int .u8, .int .u8, .int .u8, .int .u8, .int .u8, .int .u8, .int .u8, .int .u8, .int .u8, .int .u8, .int .u8, .int .u8, .int .u8, .int .u8, .int .u8, .int .u8]⟩
theorem tiOk119 : mkTI Tryd.prog 119 ti119.cmp = { ti119 with kinds := [] } := by kernel_rfl
noncomputable def tts : Tr TI := (.node 83 (.node 22 (.node 4 (.node 3 (.leaf 2 ti2) (.leaf 3 ti3)) (.node 5 (.leaf 4 ti4) (.node 9 (.leaf 5 ti5) (.leaf 9 ti9)))) (.node 25 (.node 24 (.leaf 22 ti22) (.leaf 24 ti24)) (.node 50 (.leaf 25 ti25) (.node 55 (.leaf 50 ti50) (.leaf 55 ti55))))) (.node 110 (.node 96 (.node 86 (.leaf 83 ti83) (.leaf 86 ti86)) (.node 97 (.leaf 96 ti96) (.node 105 (.leaf 97 ti97) (.leaf 105 ti105)))) (.node 114 (.node 111 (.leaf 110 ti110) (.node 112 (.leaf 111 ti111) (.leaf 112 ti112))) (.node 118 (.leaf 114 ti114) (.node 119 (.leaf 118 ti118) (.leaf 119 ti119))))))
theorem tok : TTok Tryd.prog (ttOf tts) := ttOk_of (t := tts) (⟨⟨⟨⟨tiOk2, tiOk3⟩, ⟨tiOk4, ⟨tiOk5, tiOk9⟩⟩⟩, ⟨⟨tiOk22, tiOk24⟩, ⟨tiOk25, ⟨tiOk50, tiOk55⟩⟩⟩⟩, ⟨⟨⟨tiOk83, tiOk86⟩, ⟨tiOk96, ⟨tiOk97, tiOk105⟩⟩⟩, ⟨⟨tiOk110, ⟨tiOk111, tiOk112⟩⟩, ⟨tiOk114, ⟨tiOk118, tiOk119⟩⟩⟩⟩⟩)
noncomputable def fi3 (z : Bool) : FI := fiOf Tryd.f3 ⟨[0, 3, 4], z⟩
theorem fiOk3 (z : Bool) : FIok Tryd.prog 3 (fi3 z) := fiOk_of _ Tryd.func3 (by kernel_rfl)
noncomputable def fi6 (z : Bool) : FI := fiOf Tryd.f6 ⟨[], z⟩
theorem fiOk6 (z : Bool) : FIok Tryd.prog 6 (fi6 z) := fiOk_of _ Tryd.func6 (by kernel_rfl)
noncomputable def fi7 (z : Bool) : FI := fiOf Tryd.f7 ⟨[], z⟩
theorem fiOk7 (z : Bool) : FIok Tryd.prog 7 (fi7 z) := fiOk_of _ Tryd.func7 (by kernel_rfl)
noncomputable def fi8 (z : Bool) : FI := fiOf Tryd.f8 ⟨[], z⟩
theorem fiOk8 (z : Bool) : FIok Tryd.prog 8 (fi8 z) := fiOk_of _ Tryd.func8 (by kernel_rfl)
noncomputable def fi9 (z : Bool) : FI := fiOf Tryd.f9 ⟨[], z⟩
theorem fiOk9 (z : Bool) : FIok Tryd.prog 9 (fi9 z) := fiOk_of _ Tryd.func9 (by kernel_rfl)
noncomputable def fi21 (z : Bool) : FI := fiOf Tryd.f21 ⟨[0, 3], z⟩
theorem fiOk21 (z : Bool) : FIok Tryd.prog 21 (fi21 z) := fiOk_of _ Tryd.func21 (by kernel_rfl)
noncomputable def fi22 (z : Bool) : FI := fiOf Tryd.f22 ⟨[], z⟩
theorem fiOk22 (z : Bool) : FIok Tryd.prog 22 (fi22 z) := fiOk_of _ Tryd.func22 (by kernel_rfl)
noncomputable def fi33 (z : Bool) : FI := fiOf Tryd.f33 ⟨[0, 5, 6, 7], z⟩
theorem fiOk33 (z : Bool) : FIok Tryd.prog 33 (fi33 z) := fiOk_of _ Tryd.func33 (by kernel_rfl)
noncomputable def fi34 (z : Bool) : FI := fiOf Tryd.f34 ⟨[], z⟩
theorem fiOk34 (z : Bool) : FIok Tryd.prog 34 (fi34 z) := fiOk_of _ Tryd.func34 (by kernel_rfl)
noncomputable def fi35 (z : Bool) : FI := fiOf Tryd.f35 ⟨[], z⟩
theorem fiOk35 (z : Bool) : FIok Tryd.prog 35 (fi35 z) := fiOk_of _ Tryd.func35 (by kernel_rfl)
noncomputable def fi44 (z : Bool) : FI := fiOf Tryd.f44 ⟨[0, 1, 5, 6], z⟩
theorem fiOk44 (z : Bool) : FIok Tryd.prog 44 (fi44 z) := fiOk_of _ Tryd.func44 (by kernel_rfl)
noncomputable def fi45 (z : Bool) : FI := fiOf Tryd.f45 ⟨[], z⟩
theorem fiOk45 (z : Bool) : FIok Tryd.prog 45 (fi45 z) := fiOk_of _ Tryd.func45 (by kernel_rfl)
noncomputable def fi46 (z : Bool) : FI := fiOf Tryd.f46 ⟨[], z⟩
theorem fiOk46 (z : Bool) : FIok Tryd.prog 46 (fi46 z) := fiOk_of _ Tryd.func46 (by kernel_rfl)
noncomputable def fi47 (z : Bool) : FI := fiOf Tryd.f47 ⟨[], z⟩
theorem fiOk47 (z : Bool) : FIok Tryd.prog 47 (fi47 z) := fiOk_of _ Tryd.func47 (by kernel_rfl)
noncomputable def fi48 (z : Bool) : FI := fiOf Tryd.f48 ⟨[0, 2, 5, 6, 7], z⟩
theorem fiOk48 (z : Bool) : FIok Tryd.prog 48 (fi48 z) := fiOk_of _ Tryd.func48 (by kernel_rfl)
noncomputable def fi49 (z : Bool) : FI := fiOf Tryd.f49 ⟨[], z⟩
theorem fiOk49 (z : Bool) : FIok Tryd.prog 49 (fi49 z) := fiOk_of _ Tryd.func49 (by kernel_rfl)
noncomputable def fi50 (z : Bool) : FI := fiOf Tryd.f50 ⟨[], z⟩
theorem fiOk50 (z : Bool) : FIok Tryd.prog 50 (fi50 z) := fiOk_of _ Tryd.func50 (by kernel_rfl)
noncomputable def fi57 (z : Bool) : FI := fiOf Tryd.f57 ⟨[0, 1, 7, 8], z⟩
theorem fiOk57 (z : Bool) : FIok Tryd.prog 57 (fi57 z) := fiOk_of _ Tryd.func57 (by kernel_rfl)
noncomputable def fi58 (z : Bool) : FI := fiOf Tryd.f58 ⟨[0, 1, 2, 8, 9, 10], z⟩
theorem fiOk58 (z : Bool) : FIok Tryd.prog 58 (fi58 z) := fiOk_of _ Tryd.func58 (by kernel_rfl)
noncomputable def fi59 (z : Bool) : FI := fiOf Tryd.f59 ⟨[], z⟩
theorem fiOk59 (z : Bool) : FIok Tryd.prog 59 (fi59 z) := fiOk_of _ Tryd.func59 (by kernel_rfl)
noncomputable def fi60 (z : Bool) : FI := fiOf Tryd.f60 ⟨[], z⟩
theorem fiOk60 (z : Bool) : FIok Tryd.prog 60 (fi60 z) := fiOk_of _ Tryd.func60 (by kernel_rfl)
noncomputable def fi62 (z : Bool) : FI := fiOf Tryd.f62 ⟨[], z⟩
theorem fiOk62 (z : Bool) : FIok Tryd.prog 62 (fi62 z) := fiOk_of _ Tryd.func62 (by kernel_rfl)
noncomputable def fi68 (z : Bool) : FI := fiOf Tryd.f68 ⟨[], z⟩
theorem fiOk68 (z : Bool) : FIok Tryd.prog 68 (fi68 z) := fiOk_of _ Tryd.func68 (by kernel_rfl)
noncomputable def fi69 (z : Bool) : FI := fiOf Tryd.f69 ⟨[], z⟩
theorem fiOk69 (z : Bool) : FIok Tryd.prog 69 (fi69 z) := fiOk_of _ Tryd.func69 (by kernel_rfl)
noncomputable def fi73 (z : Bool) : FI := fiOf Tryd.f73 ⟨[0, 2, 3], z⟩
theorem fiOk73 (z : Bool) : FIok Tryd.prog 73 (fi73 z) := fiOk_of _ Tryd.func73 (by kernel_rfl)
noncomputable def fns (z : Bool) : Tr FI := (.node 46 (.node 22 (.node 8 (.node 6 (.leaf 3 (fi3 z)) (.node 7 (.leaf 6 (fi6 z)) (.leaf 7 (fi7 z)))) (.node 9 (.leaf 8 (fi8 z)) (.node 21 (.leaf 9 (fi9 z)) (.leaf 21 (fi21 z))))) (.node 35 (.node 33 (.leaf 22 (fi22 z)) (.node 34 (.leaf 33 (fi33 z)) (.leaf 34 (fi34 z)))) (.node 44 (.leaf 35 (fi35 z)) (.node 45 (.leaf 44 (fi44 z)) (.leaf 45 (fi45 z)))))) (.node 58 (.node 49 (.node 47 (.leaf 46 (fi46 z)) (.node 48 (.leaf 47 (fi47 z)) (.leaf 48 (fi48 z)))) (.node 50 (.leaf 49 (fi49 z)) (.node 57 (.leaf 50 (fi50 z)) (.leaf 57 (fi57 z))))) (.node 62 (.node 59 (.leaf 58 (fi58 z)) (.node 60 (.leaf 59 (fi59 z)) (.leaf 60 (fi60 z)))) (.node 69 (.node 68 (.leaf 62 (fi62 z)) (.leaf 68 (fi68 z))) (.node 73 (.leaf 69 (fi69 z)) (.leaf 73 (fi73 z)))))))
theorem fok (z : Bool) : FOk Tryd.prog (fns z).get := fOk_of (t := fns z) (⟨⟨⟨⟨fiOk3 z, ⟨fiOk6 z, fiOk7 z⟩⟩, ⟨fiOk8 z, ⟨fiOk9 z, fiOk21 z⟩⟩⟩, ⟨⟨fiOk22 z, ⟨fiOk33 z, fiOk34 z⟩⟩, ⟨fiOk35 z, ⟨fiOk44 z, fiOk45 z⟩⟩⟩⟩, ⟨⟨⟨fiOk46 z, ⟨fiOk47 z, fiOk48 z⟩⟩, ⟨fiOk49 z, ⟨fiOk50 z, fiOk57 z⟩⟩⟩, ⟨⟨fiOk58 z, ⟨fiOk59 z, fiOk60 z⟩⟩, ⟨⟨fiOk62 z, fiOk68 z⟩, ⟨fiOk69 z, fiOk73 z⟩⟩⟩⟩⟩)
theorem hmix : Tryd.prog.follows .mixedOrders = true := by kernel_rfl
end Go.Proofs.TabK
