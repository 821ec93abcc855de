/- The table of types and functions, proved to be the code of the program; without conditions. -/
import Derived.Test.YtpaiioipoibahaaEngMc
import Derived.Test.YtpaiioipoibahaaProg
import Derived.KernelRfl
set_option linter.all false
set_option linter.deprecated false
set_option autoImplicit false
set_option maxRecDepth 100000
namespace Go.Proofs.TabP
open Go Go.Eng Go.Proofs
noncomputable def ti3 : TI := ⟨.leaf, 1, 8, [.i .i64 0], .int .i64, false, [.int .i64]⟩
theorem tiOk3 : mkTI Try.prog 3 ti3.cmp = { ti3 with kinds := [] } := by kernel_rfl
noncomputable def ti4 : TI := ⟨.leaf, 1, 1, [.b false], .bool, false, [.bool]⟩
theorem tiOk4 : mkTI Try.prog 4 ti4.cmp = { ti4 with kinds := [] } := by kernel_rfl
noncomputable def ti5 : TI := ⟨.leaf, 1, 1, [.i .u8 0], .int .u8, false, [.int .u8]⟩
theorem tiOk5 : mkTI Try.prog 5 ti5.cmp = { ti5 with kinds := [] } := by kernel_rfl
noncomputable def ti9 : TI := ⟨.str, 1, 16, [.s ByteArray.empty], .str, false, [.str]⟩
theorem tiOk9 : mkTI Try.prog 9 ti9.cmp = { ti9 with kinds := [] } := by kernel_rfl
noncomputable def ti20 : TI := ⟨.ifc, 1, 16, [.v .nilIface], .other, false, [.other]⟩
theorem tiOk20 : mkTI Try.prog 20 ti20.cmp = { ti20 with kinds := [] } := by kernel_rfl
noncomputable def ti39 : TI := ⟨.leaf, 1, 8, [.i .i64 0], .int .i64, false, [.int .i64]⟩
theorem tiOk39 : mkTI Try.prog 39 ti39.cmp = { ti39 with kinds := [] } := by kernel_rfl
noncomputable def ti65 : TI := ⟨.sl 71, 1, 24, [.v (.slice none 0 0)], .other, false, [.other]⟩
theorem tiOk65 : mkTI Try.prog 65 ti65.cmp = { ti65 with kinds := [] } := by kernel_rfl
noncomputable def ti67 : TI := ⟨.sl 9, 1, 24, [.v (.slice none 0 0)], .other, false, [.other]⟩
theorem tiOk67 : mkTI Try.prog 67 ti67.cmp = { ti67 with kinds := [] } := by kernel_rfl
noncomputable def ti69 : TI := ⟨.st [(0, 3, 1), (1, 67, 1)], 2, 32, [.i .i64 0, .v (.slice none 0 0)], .other, false, [.int .i64, .other]⟩
theorem tiOk69 : mkTI Try.prog 69 ti69.cmp = { ti69 with kinds := [] } := by kernel_rfl
noncomputable def ti71 : TI := ⟨.st [(0, 69, 2), (2, 67, 1)], 3, 56, [.i .i64 0, .v (.slice none 0 0), .v (.slice none 0 0)], .other, false, [.int .i64, .other, .other]⟩
theorem tiOk71 : mkTI Try.prog 71 ti71.cmp = { ti71 with kinds := [] } := by kernel_rfl
noncomputable def ti81 : TI := ⟨.sl 67, 1, 24, [.v (.slice none 0 0)], .other, false, [.other]⟩
theorem tiOk81 : mkTI Try.prog 81 ti81.cmp = { ti81 with kinds := [] } := by kernel_rfl
noncomputable def ti87 : TI := ⟨.leaf, 1, 8, [.v (.pointer none)], .ptr, false, [.other]⟩
theorem tiOk87 : mkTI Try.prog 87 ti87.cmp = { ti87 with kinds := [] } := by kernel_rfl
noncomputable def ti91 : TI := ⟨.st [(0, 39, 1)], 1, 8, [.i .i64 0], .other, true, [.int .i64]⟩
theorem tiOk91 : mkTI Try.prog 91 ti91.cmp = { ti91 with kinds := [] } := by kernel_rfl
noncomputable def tts : Tr TI := (.node 65 (.node 9 (.node 4 (.leaf 3 ti3) (.node 5 (.leaf 4 ti4) (.leaf 5 ti5))) (.node 20 (.leaf 9 ti9) (.node 39 (.leaf 20 ti20) (.leaf 39 ti39)))) (.node 71 (.node 67 (.leaf 65 ti65) (.node 69 (.leaf 67 ti67) (.leaf 69 ti69))) (.node 87 (.node 81 (.leaf 71 ti71) (.leaf 81 ti81)) (.node 91 (.leaf 87 ti87) (.leaf 91 ti91)))))
theorem tok : TTok Try.prog (ttOf tts) := ttOk_of (t := tts) (⟨⟨⟨tiOk3, ⟨tiOk4, tiOk5⟩⟩, ⟨tiOk9, ⟨tiOk20, tiOk39⟩⟩⟩, ⟨⟨tiOk65, ⟨tiOk67, tiOk69⟩⟩, ⟨⟨tiOk71, tiOk81⟩, ⟨tiOk87, tiOk91⟩⟩⟩⟩)
noncomputable def fi12 (z : Bool) : FI := fiOf Try.f12 ⟨[0, 3, 4], z⟩
theorem fiOk12 (z : Bool) : FIok Try.prog 12 (fi12 z) := fiOk_of _ Try.func12 (by kernel_rfl)
noncomputable def fi43 (z : Bool) : FI := fiOf Try.f43 ⟨[], z⟩
theorem fiOk43 (z : Bool) : FIok Try.prog 43 (fi43 z) := fiOk_of _ Try.func43 (by kernel_rfl)
noncomputable def fi45 (z : Bool) : FI := fiOf Try.f45 ⟨[], z⟩
theorem fiOk45 (z : Bool) : FIok Try.prog 45 (fi45 z) := fiOk_of _ Try.func45 (by kernel_rfl)
noncomputable def fi47 (z : Bool) : FI := fiOf Try.f47 ⟨[0, 1, 5], z⟩
theorem fiOk47 (z : Bool) : FIok Try.prog 47 (fi47 z) := fiOk_of _ Try.func47 (by kernel_rfl)
noncomputable def fi49 (z : Bool) : FI := fiOf Try.f49 ⟨[], z⟩
theorem fiOk49 (z : Bool) : FIok Try.prog 49 (fi49 z) := fiOk_of _ Try.func49 (by kernel_rfl)
noncomputable def fi57 (z : Bool) : FI := fiOf Try.f57 ⟨[], z⟩
theorem fiOk57 (z : Bool) : FIok Try.prog 57 (fi57 z) := fiOk_of _ Try.func57 (by kernel_rfl)
noncomputable def fi58 (z : Bool) : FI := fiOf Try.f58 ⟨[], z⟩
theorem fiOk58 (z : Bool) : FIok Try.prog 58 (fi58 z) := fiOk_of _ Try.func58 (by kernel_rfl)
noncomputable def fi59 (z : Bool) : FI := fiOf Try.f59 ⟨[2, 3, 13, 14, 15], z⟩
theorem fiOk59 (z : Bool) : FIok Try.prog 59 (fi59 z) := fiOk_of _ Try.func59 (by kernel_rfl)
noncomputable def fi62 (z : Bool) : FI := fiOf Try.f62 ⟨[], z⟩
theorem fiOk62 (z : Bool) : FIok Try.prog 62 (fi62 z) := fiOk_of _ Try.func62 (by kernel_rfl)
noncomputable def fi63 (z : Bool) : FI := fiOf Try.f63 ⟨[0, 2, 20], z⟩
theorem fiOk63 (z : Bool) : FIok Try.prog 63 (fi63 z) := fiOk_of _ Try.func63 (by kernel_rfl)
noncomputable def fi65 (z : Bool) : FI := fiOf Try.f65 ⟨[0, 5, 6], z⟩
theorem fiOk65 (z : Bool) : FIok Try.prog 65 (fi65 z) := fiOk_of _ Try.func65 (by kernel_rfl)
noncomputable def fns (z : Bool) : Tr FI := (.node 57 (.node 45 (.node 43 (.leaf 12 (fi12 z)) (.leaf 43 (fi43 z))) (.node 47 (.leaf 45 (fi45 z)) (.node 49 (.leaf 47 (fi47 z)) (.leaf 49 (fi49 z))))) (.node 62 (.node 58 (.leaf 57 (fi57 z)) (.node 59 (.leaf 58 (fi58 z)) (.leaf 59 (fi59 z)))) (.node 63 (.leaf 62 (fi62 z)) (.node 65 (.leaf 63 (fi63 z)) (.leaf 65 (fi65 z))))))
theorem fok (z : Bool) : FOk Try.prog (fns z).get := fOk_of (t := fns z) (⟨⟨⟨fiOk12 z, fiOk43 z⟩, ⟨fiOk45 z, ⟨fiOk47 z, fiOk49 z⟩⟩⟩, ⟨⟨fiOk57 z, ⟨fiOk58 z, fiOk59 z⟩⟩, ⟨fiOk62 z, ⟨fiOk63 z, fiOk65 z⟩⟩⟩⟩)
theorem hmix : Try.prog.follows .mixedOrders = true := by kernel_rfl
end Go.Proofs.TabP
