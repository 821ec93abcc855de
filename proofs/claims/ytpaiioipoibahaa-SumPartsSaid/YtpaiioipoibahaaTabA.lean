/- The table of types and functions, proved to be the code of the program; without conditions. -/
import Derived.Test.YtpaiioipoibahaaEngMb
import Derived.Test.YtpaiioipoibahaaProg
import Derived.KernelRfl
set_option linter.all false
set_option linter.deprecated false
set_option autoImplicit false
set_option maxRecDepth 100000
namespace Go.Proofs.TabA
open Go Go.Eng Go.Proofs
noncomputable def ti3 : TI := ⟨.leaf, 1, 8, [.i .i64 0], .int .i64, false, [.int .i64]⟩
theorem tiOk3 : mkTI Try.prog 3 ti3.cmp = { ti3 with kinds := [] } := by kernel_rfl
noncomputable def ti4 : TI := ⟨.leaf, 1, 1, [.b false], .bool, false, [.bool]⟩
theorem tiOk4 : mkTI Try.prog 4 ti4.cmp = { ti4 with kinds := [] } := by kernel_rfl
noncomputable def ti5 : TI := ⟨.leaf, 1, 1, [.i .u8 0], .int .u8, false, [.int .u8]⟩
theorem tiOk5 : mkTI Try.prog 5 ti5.cmp = { ti5 with kinds := [] } := by kernel_rfl
noncomputable def ti9 : TI := ⟨.str, 1, 16, [.s ByteArray.empty], .str, false, [.str]⟩
theorem tiOk9 : mkTI Try.prog 9 ti9.cmp = { ti9 with kinds := [] } := by kernel_rfl
noncomputable def ti22 : TI := ⟨.sl 26, 1, 24, [.v (.slice none 0 0)], .other, false, [.other]⟩
theorem tiOk22 : mkTI Try.prog 22 ti22.cmp = { ti22 with kinds := [] } := by kernel_rfl
noncomputable def ti23 : TI := ⟨.leaf, 1, 4, [.i .u32 0], .int .u32, false, [.int .u32]⟩
theorem tiOk23 : mkTI Try.prog 23 ti23.cmp = { ti23 with kinds := [] } := by kernel_rfl
noncomputable def ti24 : TI := ⟨.sl 5, 1, 24, [.v (.slice none 0 0)], .other, false, [.other]⟩
theorem tiOk24 : mkTI Try.prog 24 ti24.cmp = { ti24 with kinds := [] } := by kernel_rfl
noncomputable def ti26 : TI := ⟨.st [(0, 23, 1), (1, 24, 1), (2, 3, 1)], 3, 40, [.i .u32 0, .v (.slice none 0 0), .i .i64 0], .other, false, [.int .u32, .other, .int .i64]⟩
theorem tiOk26 : mkTI Try.prog 26 ti26.cmp = { ti26 with kinds := [] } := by kernel_rfl
noncomputable def ti33 : TI := ⟨.sl 3, 1, 24, [.v (.slice none 0 0)], .other, false, [.other]⟩
theorem tiOk33 : mkTI Try.prog 33 ti33.cmp = { ti33 with kinds := [] } := by kernel_rfl
noncomputable def ti35 : TI := ⟨.st [(0, 33, 1), (1, 33, 1)], 2, 48, [.v (.slice none 0 0), .v (.slice none 0 0)], .other, false, [.other, .other]⟩
theorem tiOk35 : mkTI Try.prog 35 ti35.cmp = { ti35 with kinds := [] } := by kernel_rfl
noncomputable def ti39 : TI := ⟨.leaf, 1, 8, [.i .i64 0], .int .i64, false, [.int .i64]⟩
theorem tiOk39 : mkTI Try.prog 39 ti39.cmp = { ti39 with kinds := [] } := by kernel_rfl
noncomputable def ti48 : TI := ⟨.st [(0, 3, 1), (1, 3, 1), (2, 3, 1), (3, 3, 1), (4, 3, 1)], 5, 40, [.i .i64 0, .i .i64 0, .i .i64 0, .i .i64 0, .i .i64 0], .other, true, [.int .i64, .int .i64, .int .i64, .int .i64, .int .i64]⟩
theorem tiOk48 : mkTI Try.prog 48 ti48.cmp = { ti48 with kinds := [] } := by kernel_rfl
noncomputable def ti49 : TI := ⟨.sl 53, 1, 24, [.v (.slice none 0 0)], .other, false, [.other]⟩
theorem tiOk49 : mkTI Try.prog 49 ti49.cmp = { ti49 with kinds := [] } := by kernel_rfl
noncomputable def ti51 : TI := ⟨.st [(0, 48, 5), (5, 49, 1)], 6, 64, [.i .i64 0, .i .i64 0, .i .i64 0, .i .i64 0, .i .i64 0, .v (.slice none 0 0)], .other, false, [.int .i64, .int .i64, .int .i64, .int .i64, .int .i64, .other]⟩
theorem tiOk51 : mkTI Try.prog 51 ti51.cmp = { ti51 with kinds := [] } := by kernel_rfl
noncomputable def ti53 : TI := ⟨.arr 4 3, 4, 32, [.i .i64 0, .i .i64 0, .i .i64 0, .i .i64 0], .other, false, [.int .i64, .int .i64, .int .i64, .int .i64]⟩
theorem tiOk53 : mkTI Try.prog 53 ti53.cmp = { ti53 with kinds := [] } := by kernel_rfl
noncomputable def ti82 : TI := ⟨.leaf, 1, 8, [.i .u64 0], .int .u64, false, [.int .u64]⟩
theorem tiOk82 : mkTI Try.prog 82 ti82.cmp = { ti82 with kinds := [] } := by kernel_rfl
noncomputable def tts : Tr TI := (.node 33 (.node 22 (.node 5 (.node 4 (.leaf 3 ti3) (.leaf 4 ti4)) (.node 9 (.leaf 5 ti5) (.leaf 9 ti9))) (.node 24 (.node 23 (.leaf 22 ti22) (.leaf 23 ti23)) (.node 26 (.leaf 24 ti24) (.leaf 26 ti26)))) (.node 49 (.node 39 (.node 35 (.leaf 33 ti33) (.leaf 35 ti35)) (.node 48 (.leaf 39 ti39) (.leaf 48 ti48))) (.node 53 (.node 51 (.leaf 49 ti49) (.leaf 51 ti51)) (.node 82 (.leaf 53 ti53) (.leaf 82 ti82)))))
theorem tok : TTok Try.prog (ttOf tts) := ttOk_of (t := tts) (⟨⟨⟨⟨tiOk3, tiOk4⟩, ⟨tiOk5, tiOk9⟩⟩, ⟨⟨tiOk22, tiOk23⟩, ⟨tiOk24, tiOk26⟩⟩⟩, ⟨⟨⟨tiOk33, tiOk35⟩, ⟨tiOk39, tiOk48⟩⟩, ⟨⟨tiOk49, tiOk51⟩, ⟨tiOk53, tiOk82⟩⟩⟩⟩)
noncomputable def fi3 (z : Bool) : FI := fiOf Try.f3 ⟨[0, 3], z⟩
theorem fiOk3 (z : Bool) : FIok Try.prog 3 (fi3 z) := fiOk_of _ Try.func3 (by kernel_rfl)
noncomputable def fi4 (z : Bool) : FI := fiOf Try.f4 ⟨[0, 3], z⟩
theorem fiOk4 (z : Bool) : FIok Try.prog 4 (fi4 z) := fiOk_of _ Try.func4 (by kernel_rfl)
noncomputable def fi5 (z : Bool) : FI := fiOf Try.f5 ⟨[1, 3, 4, 6, 7, 8, 9, 10], z⟩
theorem fiOk5 (z : Bool) : FIok Try.prog 5 (fi5 z) := fiOk_of _ Try.func5 (by kernel_rfl)
noncomputable def fi6 (z : Bool) : FI := fiOf Try.f6 ⟨[1, 5, 6, 7, 8, 9, 10, 11, 12], z⟩
theorem fiOk6 (z : Bool) : FIok Try.prog 6 (fi6 z) := fiOk_of _ Try.func6 (by kernel_rfl)
noncomputable def fi7 (z : Bool) : FI := fiOf Try.f7 ⟨[1, 3, 12, 13, 14], z⟩
theorem fiOk7 (z : Bool) : FIok Try.prog 7 (fi7 z) := fiOk_of _ Try.func7 (by kernel_rfl)
noncomputable def fi8 (z : Bool) : FI := fiOf Try.f8 ⟨[1, 3], z⟩
theorem fiOk8 (z : Bool) : FIok Try.prog 8 (fi8 z) := fiOk_of _ Try.func8 (by kernel_rfl)
noncomputable def fi9 (z : Bool) : FI := fiOf Try.f9 ⟨[3, 4, 5, 6, 8, 9], z⟩
theorem fiOk9 (z : Bool) : FIok Try.prog 9 (fi9 z) := fiOk_of _ Try.func9 (by kernel_rfl)
noncomputable def fi10 (z : Bool) : FI := fiOf Try.f10 ⟨[1, 3, 4], z⟩
theorem fiOk10 (z : Bool) : FIok Try.prog 10 (fi10 z) := fiOk_of _ Try.func10 (by kernel_rfl)
noncomputable def fi13 (z : Bool) : FI := fiOf Try.f13 ⟨[0, 3, 4], z⟩
theorem fiOk13 (z : Bool) : FIok Try.prog 13 (fi13 z) := fiOk_of _ Try.func13 (by kernel_rfl)
noncomputable def fi14 (z : Bool) : FI := fiOf Try.f14 ⟨[0, 9, 10, 11, 19], z⟩
theorem fiOk14 (z : Bool) : FIok Try.prog 14 (fi14 z) := fiOk_of _ Try.func14 (by kernel_rfl)
noncomputable def fi15 (z : Bool) : FI := fiOf Try.f15 ⟨[0, 1, 5, 6], z⟩
theorem fiOk15 (z : Bool) : FIok Try.prog 15 (fi15 z) := fiOk_of _ Try.func15 (by kernel_rfl)
noncomputable def fi16 (z : Bool) : FI := fiOf Try.f16 ⟨[0, 1, 5], z⟩
theorem fiOk16 (z : Bool) : FIok Try.prog 16 (fi16 z) := fiOk_of _ Try.func16 (by kernel_rfl)
noncomputable def fi17 (z : Bool) : FI := fiOf Try.f17 ⟨[], z⟩
theorem fiOk17 (z : Bool) : FIok Try.prog 17 (fi17 z) := fiOk_of _ Try.func17 (by kernel_rfl)
noncomputable def fi18 (z : Bool) : FI := fiOf Try.f18 ⟨[], z⟩
theorem fiOk18 (z : Bool) : FIok Try.prog 18 (fi18 z) := fiOk_of _ Try.func18 (by kernel_rfl)
noncomputable def fi19 (z : Bool) : FI := fiOf Try.f19 ⟨[0, 3], z⟩
theorem fiOk19 (z : Bool) : FIok Try.prog 19 (fi19 z) := fiOk_of _ Try.func19 (by kernel_rfl)
noncomputable def fi20 (z : Bool) : FI := fiOf Try.f20 ⟨[0, 3, 4], z⟩
theorem fiOk20 (z : Bool) : FIok Try.prog 20 (fi20 z) := fiOk_of _ Try.func20 (by kernel_rfl)
noncomputable def fi21 (z : Bool) : FI := fiOf Try.f21 ⟨[], z⟩
theorem fiOk21 (z : Bool) : FIok Try.prog 21 (fi21 z) := fiOk_of _ Try.func21 (by kernel_rfl)
noncomputable def fi22 (z : Bool) : FI := fiOf Try.f22 ⟨[], z⟩
theorem fiOk22 (z : Bool) : FIok Try.prog 22 (fi22 z) := fiOk_of _ Try.func22 (by kernel_rfl)
noncomputable def fi23 (z : Bool) : FI := fiOf Try.f23 ⟨[], z⟩
theorem fiOk23 (z : Bool) : FIok Try.prog 23 (fi23 z) := fiOk_of _ Try.func23 (by kernel_rfl)
noncomputable def fi24 (z : Bool) : FI := fiOf Try.f24 ⟨[], z⟩
theorem fiOk24 (z : Bool) : FIok Try.prog 24 (fi24 z) := fiOk_of _ Try.func24 (by kernel_rfl)
noncomputable def fi25 (z : Bool) : FI := fiOf Try.f25 ⟨[], z⟩
theorem fiOk25 (z : Bool) : FIok Try.prog 25 (fi25 z) := fiOk_of _ Try.func25 (by kernel_rfl)
noncomputable def fi26 (z : Bool) : FI := fiOf Try.f26 ⟨[0, 1, 5], z⟩
theorem fiOk26 (z : Bool) : FIok Try.prog 26 (fi26 z) := fiOk_of _ Try.func26 (by kernel_rfl)
noncomputable def fi27 (z : Bool) : FI := fiOf Try.f27 ⟨[], z⟩
theorem fiOk27 (z : Bool) : FIok Try.prog 27 (fi27 z) := fiOk_of _ Try.func27 (by kernel_rfl)
noncomputable def fi28 (z : Bool) : FI := fiOf Try.f28 ⟨[0, 1, 4, 21, 22], z⟩
theorem fiOk28 (z : Bool) : FIok Try.prog 28 (fi28 z) := fiOk_of _ Try.func28 (by kernel_rfl)
noncomputable def fi29 (z : Bool) : FI := fiOf Try.f29 ⟨[], z⟩
theorem fiOk29 (z : Bool) : FIok Try.prog 29 (fi29 z) := fiOk_of _ Try.func29 (by kernel_rfl)
noncomputable def fi30 (z : Bool) : FI := fiOf Try.f30 ⟨[], z⟩
theorem fiOk30 (z : Bool) : FIok Try.prog 30 (fi30 z) := fiOk_of _ Try.func30 (by kernel_rfl)
noncomputable def fi31 (z : Bool) : FI := fiOf Try.f31 ⟨[], z⟩
theorem fiOk31 (z : Bool) : FIok Try.prog 31 (fi31 z) := fiOk_of _ Try.func31 (by kernel_rfl)
noncomputable def fi32 (z : Bool) : FI := fiOf Try.f32 ⟨[], z⟩
theorem fiOk32 (z : Bool) : FIok Try.prog 32 (fi32 z) := fiOk_of _ Try.func32 (by kernel_rfl)
noncomputable def fi33 (z : Bool) : FI := fiOf Try.f33 ⟨[], z⟩
theorem fiOk33 (z : Bool) : FIok Try.prog 33 (fi33 z) := fiOk_of _ Try.func33 (by kernel_rfl)
noncomputable def fi34 (z : Bool) : FI := fiOf Try.f34 ⟨[], z⟩
theorem fiOk34 (z : Bool) : FIok Try.prog 34 (fi34 z) := fiOk_of _ Try.func34 (by kernel_rfl)
noncomputable def fi35 (z : Bool) : FI := fiOf Try.f35 ⟨[], z⟩
theorem fiOk35 (z : Bool) : FIok Try.prog 35 (fi35 z) := fiOk_of _ Try.func35 (by kernel_rfl)
noncomputable def fi36 (z : Bool) : FI := fiOf Try.f36 ⟨[], z⟩
theorem fiOk36 (z : Bool) : FIok Try.prog 36 (fi36 z) := fiOk_of _ Try.func36 (by kernel_rfl)
noncomputable def fi37 (z : Bool) : FI := fiOf Try.f37 ⟨[], z⟩
theorem fiOk37 (z : Bool) : FIok Try.prog 37 (fi37 z) := fiOk_of _ Try.func37 (by kernel_rfl)
noncomputable def fi38 (z : Bool) : FI := fiOf Try.f38 ⟨[], z⟩
theorem fiOk38 (z : Bool) : FIok Try.prog 38 (fi38 z) := fiOk_of _ Try.func38 (by kernel_rfl)
noncomputable def fi39 (z : Bool) : FI := fiOf Try.f39 ⟨[], z⟩
theorem fiOk39 (z : Bool) : FIok Try.prog 39 (fi39 z) := fiOk_of _ Try.func39 (by kernel_rfl)
noncomputable def fi40 (z : Bool) : FI := fiOf Try.f40 ⟨[], z⟩
theorem fiOk40 (z : Bool) : FIok Try.prog 40 (fi40 z) := fiOk_of _ Try.func40 (by kernel_rfl)
noncomputable def fi50 (z : Bool) : FI := fiOf Try.f50 ⟨[], z⟩
theorem fiOk50 (z : Bool) : FIok Try.prog 50 (fi50 z) := fiOk_of _ Try.func50 (by kernel_rfl)
noncomputable def fi51 (z : Bool) : FI := fiOf Try.f51 ⟨[0, 3, 4], z⟩
theorem fiOk51 (z : Bool) : FIok Try.prog 51 (fi51 z) := fiOk_of _ Try.func51 (by kernel_rfl)
noncomputable def fi52 (z : Bool) : FI := fiOf Try.f52 ⟨[], z⟩
theorem fiOk52 (z : Bool) : FIok Try.prog 52 (fi52 z) := fiOk_of _ Try.func52 (by kernel_rfl)
noncomputable def fi53 (z : Bool) : FI := fiOf Try.f53 ⟨[], z⟩
theorem fiOk53 (z : Bool) : FIok Try.prog 53 (fi53 z) := fiOk_of _ Try.func53 (by kernel_rfl)
noncomputable def fi54 (z : Bool) : FI := fiOf Try.f54 ⟨[], z⟩
theorem fiOk54 (z : Bool) : FIok Try.prog 54 (fi54 z) := fiOk_of _ Try.func54 (by kernel_rfl)
noncomputable def fi55 (z : Bool) : FI := fiOf Try.f55 ⟨[], z⟩
theorem fiOk55 (z : Bool) : FIok Try.prog 55 (fi55 z) := fiOk_of _ Try.func55 (by kernel_rfl)
noncomputable def fi61 (z : Bool) : FI := fiOf Try.f61 ⟨[0, 3, 4], z⟩
theorem fiOk61 (z : Bool) : FIok Try.prog 61 (fi61 z) := fiOk_of _ Try.func61 (by kernel_rfl)
noncomputable def fns (z : Bool) : Tr FI := (.node 26 (.node 15 (.node 8 (.node 5 (.node 4 (.leaf 3 (fi3 z)) (.leaf 4 (fi4 z))) (.node 6 (.leaf 5 (fi5 z)) (.node 7 (.leaf 6 (fi6 z)) (.leaf 7 (fi7 z))))) (.node 10 (.node 9 (.leaf 8 (fi8 z)) (.leaf 9 (fi9 z))) (.node 13 (.leaf 10 (fi10 z)) (.node 14 (.leaf 13 (fi13 z)) (.leaf 14 (fi14 z)))))) (.node 20 (.node 17 (.node 16 (.leaf 15 (fi15 z)) (.leaf 16 (fi16 z))) (.node 18 (.leaf 17 (fi17 z)) (.node 19 (.leaf 18 (fi18 z)) (.leaf 19 (fi19 z))))) (.node 23 (.node 21 (.leaf 20 (fi20 z)) (.node 22 (.leaf 21 (fi21 z)) (.leaf 22 (fi22 z)))) (.node 24 (.leaf 23 (fi23 z)) (.node 25 (.leaf 24 (fi24 z)) (.leaf 25 (fi25 z))))))) (.node 37 (.node 31 (.node 28 (.node 27 (.leaf 26 (fi26 z)) (.leaf 27 (fi27 z))) (.node 29 (.leaf 28 (fi28 z)) (.node 30 (.leaf 29 (fi29 z)) (.leaf 30 (fi30 z))))) (.node 34 (.node 32 (.leaf 31 (fi31 z)) (.node 33 (.leaf 32 (fi32 z)) (.leaf 33 (fi33 z)))) (.node 35 (.leaf 34 (fi34 z)) (.node 36 (.leaf 35 (fi35 z)) (.leaf 36 (fi36 z)))))) (.node 51 (.node 39 (.node 38 (.leaf 37 (fi37 z)) (.leaf 38 (fi38 z))) (.node 40 (.leaf 39 (fi39 z)) (.node 50 (.leaf 40 (fi40 z)) (.leaf 50 (fi50 z))))) (.node 54 (.node 52 (.leaf 51 (fi51 z)) (.node 53 (.leaf 52 (fi52 z)) (.leaf 53 (fi53 z)))) (.node 55 (.leaf 54 (fi54 z)) (.node 61 (.leaf 55 (fi55 z)) (.leaf 61 (fi61 z))))))))
theorem fok (z : Bool) : FOk Try.prog (fns z).get := fOk_of (t := fns z) (⟨⟨⟨⟨⟨fiOk3 z, fiOk4 z⟩, ⟨fiOk5 z, ⟨fiOk6 z, fiOk7 z⟩⟩⟩, ⟨⟨fiOk8 z, fiOk9 z⟩, ⟨fiOk10 z, ⟨fiOk13 z, fiOk14 z⟩⟩⟩⟩, ⟨⟨⟨fiOk15 z, fiOk16 z⟩, ⟨fiOk17 z, ⟨fiOk18 z, fiOk19 z⟩⟩⟩, ⟨⟨fiOk20 z, ⟨fiOk21 z, fiOk22 z⟩⟩, ⟨fiOk23 z, ⟨fiOk24 z, fiOk25 z⟩⟩⟩⟩⟩, ⟨⟨⟨⟨fiOk26 z, fiOk27 z⟩, ⟨fiOk28 z, ⟨fiOk29 z, fiOk30 z⟩⟩⟩, ⟨⟨fiOk31 z, ⟨fiOk32 z, fiOk33 z⟩⟩, ⟨fiOk34 z, ⟨fiOk35 z, fiOk36 z⟩⟩⟩⟩, ⟨⟨⟨fiOk37 z, fiOk38 z⟩, ⟨fiOk39 z, ⟨fiOk40 z, fiOk50 z⟩⟩⟩, ⟨⟨fiOk51 z, ⟨fiOk52 z, fiOk53 z⟩⟩, ⟨fiOk54 z, ⟨fiOk55 z, fiOk61 z⟩⟩⟩⟩⟩⟩)
theorem hmix : Try.prog.follows .mixedOrders = true := by kernel_rfl
end Go.Proofs.TabA
