/- The table of types and functions, proved to be the code of the program; without conditions. -/
import Derived.Test.YtcmnaaopgffjdaaEngMc
import Derived.Test.YtcmnaaopgffjdaaProg
import Derived.KernelRfl
set_option linter.all false
set_option linter.deprecated false
set_option autoImplicit false
set_option maxRecDepth 100000
namespace Go.Proofs.TabU
open Go Go.Eng Go.Proofs
noncomputable def ti3 : TI := ⟨.leaf, 1, 8, [.i .i64 0], .int .i64, false, [.int .i64]⟩
theorem tiOk3 : mkTI Try.prog 3 ti3.cmp = { ti3 with kinds := [] } := by kernel_rfl
noncomputable def ti4 : TI := ⟨.leaf, 1, 1, [.b false], .bool, false, [.bool]⟩
theorem tiOk4 : mkTI Try.prog 4 ti4.cmp = { ti4 with kinds := [] } := by kernel_rfl
noncomputable def ti5 : TI := ⟨.leaf, 1, 1, [.i .u8 0], .int .u8, false, [.int .u8]⟩
theorem tiOk5 : mkTI Try.prog 5 ti5.cmp = { ti5 with kinds := [] } := by kernel_rfl
noncomputable def ti9 : TI := ⟨.str, 1, 16, [.s ByteArray.empty], .str, false, [.str]⟩
theorem tiOk9 : mkTI Try.prog 9 ti9.cmp = { ti9 with kinds := [] } := by kernel_rfl
noncomputable def ti20 : TI := ⟨.ifc, 1, 16, [.v .nilIface], .other, false, [.other]⟩
theorem tiOk20 : mkTI Try.prog 20 ti20.cmp = { ti20 with kinds := [] } := by kernel_rfl
noncomputable def ti22 : TI := ⟨.sl 28, 1, 24, [.v (.slice none 0 0)], .other, false, [.other]⟩
theorem tiOk22 : mkTI Try.prog 22 ti22.cmp = { ti22 with kinds := [] } := by kernel_rfl
noncomputable def ti24 : TI := ⟨.sl 9, 1, 24, [.v (.slice none 0 0)], .other, false, [.other]⟩
theorem tiOk24 : mkTI Try.prog 24 ti24.cmp = { ti24 with kinds := [] } := by kernel_rfl
noncomputable def ti26 : TI := ⟨.st [(0, 3, 1), (1, 24, 1)], 2, 32, [.i .i64 0, .v (.slice none 0 0)], .other, false, [.int .i64, .other]⟩
theorem tiOk26 : mkTI Try.prog 26 ti26.cmp = { ti26 with kinds := [] } := by kernel_rfl
noncomputable def ti28 : TI := ⟨.st [(0, 26, 2), (2, 24, 1)], 3, 56, [.i .i64 0, .v (.slice none 0 0), .v (.slice none 0 0)], .other, false, [.int .i64, .other, .other]⟩
theorem tiOk28 : mkTI Try.prog 28 ti28.cmp = { ti28 with kinds := [] } := by kernel_rfl
noncomputable def ti30 : TI := ⟨.leaf, 1, 8, [.i .i64 0], .int .i64, false, [.int .i64]⟩
theorem tiOk30 : mkTI Try.prog 30 ti30.cmp = { ti30 with kinds := [] } := by kernel_rfl
noncomputable def ti63 : TI := ⟨.leaf, 1, 8, [.v (.pointer none)], .ptr, false, [.other]⟩
theorem tiOk63 : mkTI Try.prog 63 ti63.cmp = { ti63 with kinds := [] } := by kernel_rfl
noncomputable def ti70 : TI := ⟨.st [(0, 30, 1)], 1, 8, [.i .i64 0], .other, true, [.int .i64]⟩
theorem tiOk70 : mkTI Try.prog 70 ti70.cmp = { ti70 with kinds := [] } := by kernel_rfl
noncomputable def tts : Tr TI := (.node 24 (.node 9 (.node 4 (.leaf 3 ti3) (.node 5 (.leaf 4 ti4) (.leaf 5 ti5))) (.node 20 (.leaf 9 ti9) (.node 22 (.leaf 20 ti20) (.leaf 22 ti22)))) (.node 30 (.node 26 (.leaf 24 ti24) (.node 28 (.leaf 26 ti26) (.leaf 28 ti28))) (.node 63 (.leaf 30 ti30) (.node 70 (.leaf 63 ti63) (.leaf 70 ti70)))))
theorem tok : TTok Try.prog (ttOf tts) := ttOk_of (t := tts) (⟨⟨⟨tiOk3, ⟨tiOk4, tiOk5⟩⟩, ⟨tiOk9, ⟨tiOk20, tiOk22⟩⟩⟩, ⟨⟨tiOk24, ⟨tiOk26, tiOk28⟩⟩, ⟨tiOk30, ⟨tiOk63, tiOk70⟩⟩⟩⟩)
noncomputable def fi3 (z : Bool) : FI := fiOf Try.f3 ⟨[0, 3], z⟩
theorem fiOk3 (z : Bool) : FIok Try.prog 3 (fi3 z) := fiOk_of _ Try.func3 (by kernel_rfl)
noncomputable def fi6 (z : Bool) : FI := fiOf Try.f6 ⟨[], z⟩
theorem fiOk6 (z : Bool) : FIok Try.prog 6 (fi6 z) := fiOk_of _ Try.func6 (by kernel_rfl)
noncomputable def fi7 (z : Bool) : FI := fiOf Try.f7 ⟨[0, 3, 4], z⟩
theorem fiOk7 (z : Bool) : FIok Try.prog 7 (fi7 z) := fiOk_of _ Try.func7 (by kernel_rfl)
noncomputable def fi8 (z : Bool) : FI := fiOf Try.f8 ⟨[], z⟩
theorem fiOk8 (z : Bool) : FIok Try.prog 8 (fi8 z) := fiOk_of _ Try.func8 (by kernel_rfl)
noncomputable def fi9 (z : Bool) : FI := fiOf Try.f9 ⟨[0, 2, 4, 5, 6], z⟩
theorem fiOk9 (z : Bool) : FIok Try.prog 9 (fi9 z) := fiOk_of _ Try.func9 (by kernel_rfl)
noncomputable def fi10 (z : Bool) : FI := fiOf Try.f10 ⟨[], z⟩
theorem fiOk10 (z : Bool) : FIok Try.prog 10 (fi10 z) := fiOk_of _ Try.func10 (by kernel_rfl)
noncomputable def fi11 (z : Bool) : FI := fiOf Try.f11 ⟨[], z⟩
theorem fiOk11 (z : Bool) : FIok Try.prog 11 (fi11 z) := fiOk_of _ Try.func11 (by kernel_rfl)
noncomputable def fi12 (z : Bool) : FI := fiOf Try.f12 ⟨[0, 1, 5], z⟩
theorem fiOk12 (z : Bool) : FIok Try.prog 12 (fi12 z) := fiOk_of _ Try.func12 (by kernel_rfl)
noncomputable def fi13 (z : Bool) : FI := fiOf Try.f13 ⟨[0, 2], z⟩
theorem fiOk13 (z : Bool) : FIok Try.prog 13 (fi13 z) := fiOk_of _ Try.func13 (by kernel_rfl)
noncomputable def fi14 (z : Bool) : FI := fiOf Try.f14 ⟨[], z⟩
theorem fiOk14 (z : Bool) : FIok Try.prog 14 (fi14 z) := fiOk_of _ Try.func14 (by kernel_rfl)
noncomputable def fi26 (z : Bool) : FI := fiOf Try.f26 ⟨[0, 3, 4], z⟩
theorem fiOk26 (z : Bool) : FIok Try.prog 26 (fi26 z) := fiOk_of _ Try.func26 (by kernel_rfl)
noncomputable def fi27 (z : Bool) : FI := fiOf Try.f27 ⟨[], z⟩
theorem fiOk27 (z : Bool) : FIok Try.prog 27 (fi27 z) := fiOk_of _ Try.func27 (by kernel_rfl)
noncomputable def fi28 (z : Bool) : FI := fiOf Try.f28 ⟨[], z⟩
theorem fiOk28 (z : Bool) : FIok Try.prog 28 (fi28 z) := fiOk_of _ Try.func28 (by kernel_rfl)
noncomputable def fi29 (z : Bool) : FI := fiOf Try.f29 ⟨[2, 3, 13, 14, 15], z⟩
theorem fiOk29 (z : Bool) : FIok Try.prog 29 (fi29 z) := fiOk_of _ Try.func29 (by kernel_rfl)
noncomputable def fi30 (z : Bool) : FI := fiOf Try.f30 ⟨[], z⟩
theorem fiOk30 (z : Bool) : FIok Try.prog 30 (fi30 z) := fiOk_of _ Try.func30 (by kernel_rfl)
noncomputable def fi35 (z : Bool) : FI := fiOf Try.f35 ⟨[], z⟩
theorem fiOk35 (z : Bool) : FIok Try.prog 35 (fi35 z) := fiOk_of _ Try.func35 (by kernel_rfl)
noncomputable def fi36 (z : Bool) : FI := fiOf Try.f36 ⟨[0, 2, 20], z⟩
theorem fiOk36 (z : Bool) : FIok Try.prog 36 (fi36 z) := fiOk_of _ Try.func36 (by kernel_rfl)
noncomputable def fi37 (z : Bool) : FI := fiOf Try.f37 ⟨[0, 1, 5], z⟩
theorem fiOk37 (z : Bool) : FIok Try.prog 37 (fi37 z) := fiOk_of _ Try.func37 (by kernel_rfl)
noncomputable def fi45 (z : Bool) : FI := fiOf Try.f45 ⟨[0, 5, 6], z⟩
theorem fiOk45 (z : Bool) : FIok Try.prog 45 (fi45 z) := fiOk_of _ Try.func45 (by kernel_rfl)
noncomputable def fns (z : Bool) : Tr FI := (.node 14 (.node 9 (.node 7 (.node 6 (.leaf 3 (fi3 z)) (.leaf 6 (fi6 z))) (.node 8 (.leaf 7 (fi7 z)) (.leaf 8 (fi8 z)))) (.node 11 (.node 10 (.leaf 9 (fi9 z)) (.leaf 10 (fi10 z))) (.node 12 (.leaf 11 (fi11 z)) (.node 13 (.leaf 12 (fi12 z)) (.leaf 13 (fi13 z)))))) (.node 30 (.node 27 (.node 26 (.leaf 14 (fi14 z)) (.leaf 26 (fi26 z))) (.node 28 (.leaf 27 (fi27 z)) (.node 29 (.leaf 28 (fi28 z)) (.leaf 29 (fi29 z))))) (.node 36 (.node 35 (.leaf 30 (fi30 z)) (.leaf 35 (fi35 z))) (.node 37 (.leaf 36 (fi36 z)) (.node 45 (.leaf 37 (fi37 z)) (.leaf 45 (fi45 z)))))))
theorem fok (z : Bool) : FOk Try.prog (fns z).get := fOk_of (t := fns z) (⟨⟨⟨⟨fiOk3 z, fiOk6 z⟩, ⟨fiOk7 z, fiOk8 z⟩⟩, ⟨⟨fiOk9 z, fiOk10 z⟩, ⟨fiOk11 z, ⟨fiOk12 z, fiOk13 z⟩⟩⟩⟩, ⟨⟨⟨fiOk14 z, fiOk26 z⟩, ⟨fiOk27 z, ⟨fiOk28 z, fiOk29 z⟩⟩⟩, ⟨⟨fiOk30 z, fiOk35 z⟩, ⟨fiOk36 z, ⟨fiOk37 z, fiOk45 z⟩⟩⟩⟩⟩)
theorem hmix : Try.prog.follows .mixedOrders = true := by kernel_rfl
end Go.Proofs.TabU
