/- The table of types and functions, proved to be the code of the program; without conditions. -/
import Derived.Test.YtiokhipgpfeoeaaEngMb
import Derived.Test.YtiokhipgpfeoeaaProg
import Derived.KernelRfl
set_option linter.all false
set_option linter.deprecated false
set_option autoImplicit false
set_option maxRecDepth 100000
namespace Go.Proofs.TabH
open Go Go.Eng Go.Proofs
noncomputable def ti3 : TI := ⟨.leaf, 1, 8, [.i .i64 0], .int .i64, false, [.int .i64]⟩
theorem tiOk3 : mkTI Try.prog 3 ti3.cmp = { ti3 with kinds := [] } := by kernel_rfl
noncomputable def ti4 : TI := ⟨.leaf, 1, 1, [.b false], .bool, false, [.bool]⟩
theorem tiOk4 : mkTI Try.prog 4 ti4.cmp = { ti4 with kinds := [] } := by kernel_rfl
noncomputable def ti9 : TI := ⟨.str, 1, 16, [.s ByteArray.empty], .str, false, [.str]⟩
theorem tiOk9 : mkTI Try.prog 9 ti9.cmp = { ti9 with kinds := [] } := by kernel_rfl
noncomputable def ti22 : TI := ⟨.leaf, 1, 8, [.i .u64 0], .int .u64, false, [.int .u64]⟩
theorem tiOk22 : mkTI Try.prog 22 ti22.cmp = { ti22 with kinds := [] } := by kernel_rfl
noncomputable def ti23 : TI := ⟨.sl 32, 1, 24, [.v (.slice none 0 0)], .other, false, [.other]⟩
theorem tiOk23 : mkTI Try.prog 23 ti23.cmp = { ti23 with kinds := [] } := by kernel_rfl
noncomputable def ti24 : TI := ⟨.sl 22, 1, 24, [.v (.slice none 0 0)], .other, false, [.other]⟩
theorem tiOk24 : mkTI Try.prog 24 ti24.cmp = { ti24 with kinds := [] } := by kernel_rfl
noncomputable def ti26 : TI := ⟨.st [(0, 22, 1), (1, 3, 1), (2, 23, 1), (3, 24, 1)], 4, 64, [.i .u64 0, .i .i64 0, .v (.slice none 0 0), .v (.slice none 0 0)], .other, false, [.int .u64, .int .i64, .other, .other]⟩
theorem tiOk26 : mkTI Try.prog 26 ti26.cmp = { ti26 with kinds := [] } := by kernel_rfl
noncomputable def ti27 : TI := ⟨.leaf, 1, 8, [.v (.float .f64 0)], .flt, false, [.flt]⟩
theorem tiOk27 : mkTI Try.prog 27 ti27.cmp = { ti27 with kinds := [] } := by kernel_rfl
noncomputable def ti29 : TI := ⟨.st [(0, 27, 1), (1, 3, 1)], 2, 16, [.v (.float .f64 0), .i .i64 0], .other, true, [.flt, .int .i64]⟩
theorem tiOk29 : mkTI Try.prog 29 ti29.cmp = { ti29 with kinds := [] } := by kernel_rfl
noncomputable def ti32 : TI := ⟨.arr 2 22, 2, 16, [.i .u64 0, .i .u64 0], .other, false, [.int .u64, .int .u64]⟩
theorem tiOk32 : mkTI Try.prog 32 ti32.cmp = { ti32 with kinds := [] } := by kernel_rfl
noncomputable def ti33 : TI := ⟨.leaf, 1, 8, [.i .i64 0], .int .i64, false, [.int .i64]⟩
theorem tiOk33 : mkTI Try.prog 33 ti33.cmp = { ti33 with kinds := [] } := by kernel_rfl
noncomputable def ti44 : TI := ⟨.sl 27, 1, 24, [.v (.slice none 0 0)], .other, false, [.other]⟩
theorem tiOk44 : mkTI Try.prog 44 ti44.cmp = { ti44 with kinds := [] } := by kernel_rfl
noncomputable def ti50 : TI := ⟨.sl 29, 1, 24, [.v (.slice none 0 0)], .other, false, [.other]⟩
theorem tiOk50 : mkTI Try.prog 50 ti50.cmp = { ti50 with kinds := [] } := by kernel_rfl
noncomputable def ti54 : TI := ⟨.st [(0, 3, 1), (1, 3, 1), (2, 3, 1), (3, 29, 2)], 5, 40, [.i .i64 0, .i .i64 0, .i .i64 0, .v (.float .f64 0), .i .i64 0], .other, true, [.int .i64, .int .i64, .int .i64, .flt, .int .i64]⟩
theorem tiOk54 : mkTI Try.prog 54 ti54.cmp = { ti54 with kinds := [] } := by kernel_rfl
noncomputable def ti55 : TI := ⟨.sl 75, 1, 24, [.v (.slice none 0 0)], .other, false, [.other]⟩
theorem tiOk55 : mkTI Try.prog 55 ti55.cmp = { ti55 with kinds := [] } := by kernel_rfl
noncomputable def ti57 : TI := ⟨.st [(0, 54, 5), (5, 22, 1), (6, 55, 1)], 7, 72, [.i .i64 0, .i .i64 0, .i .i64 0, .v (.float .f64 0), .i .i64 0, .i .u64 0, .v (.slice none 0 0)], .other, false, [.int .i64, .int .i64, .int .i64, .flt, .int .i64, .int .u64, .other]⟩
theorem tiOk57 : mkTI Try.prog 57 ti57.cmp = { ti57 with kinds := [] } := by kernel_rfl
noncomputable def ti63 : TI := ⟨.sl 106, 1, 24, [.v (.slice none 0 0)], .other, false, [.other]⟩
theorem tiOk63 : mkTI Try.prog 63 ti63.cmp = { ti63 with kinds := [] } := by kernel_rfl
noncomputable def ti64 : TI := ⟨.sl 3, 1, 24, [.v (.slice none 0 0)], .other, false, [.other]⟩
theorem tiOk64 : mkTI Try.prog 64 ti64.cmp = { ti64 with kinds := [] } := by kernel_rfl
noncomputable def ti66 : TI := ⟨.st [(0, 63, 1), (1, 9, 1), (2, 3, 1), (3, 3, 1), (4, 64, 1), (5, 3, 1), (6, 3, 1), (7, 27, 1)], 8, 104, [.v (.slice none 0 0), .s ByteArray.empty, .i .i64 0, .i .i64 0, .v (.slice none 0 0), .i .i64 0, .i .i64 0, .v (.float .f64 0)], .other, false, [.other, .str, .int .i64, .int .i64, .other, .int .i64, .int .i64, .flt]⟩
theorem tiOk66 : mkTI Try.prog 66 ti66.cmp = { ti66 with kinds := [] } := by kernel_rfl
noncomputable def ti75 : TI := ⟨.st [(0, 3, 1), (1, 3, 1), (2, 3, 1), (3, 3, 1), (4, 4, 1), (5, 22, 1)], 6, 48, [.i .i64 0, .i .i64 0, .i .i64 0, .i .i64 0, .b false, .i .u64 0], .other, true, [.int .i64, .int .i64, .int .i64, .int .i64, .bool, .int .u64]⟩
theorem tiOk75 : mkTI Try.prog 75 ti75.cmp = { ti75 with kinds := [] } := by kernel_rfl
noncomputable def ti84 : TI := ⟨.leaf, 1, 8, [.i .u64 0], .int .u64, false, [.int .u64]⟩
theorem tiOk84 : mkTI Try.prog 84 ti84.cmp = { ti84 with kinds := [] } := by kernel_rfl
noncomputable def ti104 : TI := ⟨.st [(0, 3, 1), (1, 3, 1), (2, 3, 1), (3, 3, 1), (4, 3, 1)], 5, 40, [.i .i64 0, .i .i64 0, .i .i64 0, .i .i64 0, .i .i64 0], .other, true, [.int .i64, .int .i64, .int .i64, .int .i64, .int .i64]⟩
theorem tiOk104 : mkTI Try.prog 104 ti104.cmp = { ti104 with kinds := [] } := by kernel_rfl
noncomputable def ti106 : TI := ⟨.st [(0, 9, 1), (1, 3, 1), (2, 3, 1), (3, 3, 1), (4, 104, 5), (9, 4, 1)], 10, 88, [.s ByteArray.empty, .i .i64 0, .i .i64 0, .i .i64 0, .i .i64 0, .i .i64 0, .i .i64 0, .i .i64 0, .i .i64 0, .b false], .other, true, [.str, .int .i64, .int .i64, .int .i64, .int .i64, .int .i64, .int .i64, .int .i64, .int .i64, .bool]⟩
theorem tiOk106 : mkTI Try.prog 106 ti106.cmp = { ti106 with kinds := [] } := by kernel_rfl
noncomputable def tts : Tr TI := (.node 44 (.node 24 (.node 9 (.node 4 (.leaf 3 ti3) (.leaf 4 ti4)) (.node 22 (.leaf 9 ti9) (.node 23 (.leaf 22 ti22) (.leaf 23 ti23)))) (.node 29 (.node 26 (.leaf 24 ti24) (.node 27 (.leaf 26 ti26) (.leaf 27 ti27))) (.node 32 (.leaf 29 ti29) (.node 33 (.leaf 32 ti32) (.leaf 33 ti33))))) (.node 64 (.node 55 (.node 50 (.leaf 44 ti44) (.node 54 (.leaf 50 ti50) (.leaf 54 ti54))) (.node 57 (.leaf 55 ti55) (.node 63 (.leaf 57 ti57) (.leaf 63 ti63)))) (.node 84 (.node 66 (.leaf 64 ti64) (.node 75 (.leaf 66 ti66) (.leaf 75 ti75))) (.node 104 (.leaf 84 ti84) (.node 106 (.leaf 104 ti104) (.leaf 106 ti106))))))
theorem tok : TTok Try.prog (ttOf tts) := ttOk_of (t := tts) (⟨⟨⟨⟨tiOk3, tiOk4⟩, ⟨tiOk9, ⟨tiOk22, tiOk23⟩⟩⟩, ⟨⟨tiOk24, ⟨tiOk26, tiOk27⟩⟩, ⟨tiOk29, ⟨tiOk32, tiOk33⟩⟩⟩⟩, ⟨⟨⟨tiOk44, ⟨tiOk50, tiOk54⟩⟩, ⟨tiOk55, ⟨tiOk57, tiOk63⟩⟩⟩, ⟨⟨tiOk64, ⟨tiOk66, tiOk75⟩⟩, ⟨tiOk84, ⟨tiOk104, tiOk106⟩⟩⟩⟩⟩)
noncomputable def fi3 (z : Bool) : FI := fiOf Try.f3 ⟨[1, 3, 4], z⟩
theorem fiOk3 (z : Bool) : FIok Try.prog 3 (fi3 z) := fiOk_of _ Try.func3 (by kernel_rfl)
noncomputable def fi4 (z : Bool) : FI := fiOf Try.f4 ⟨[1, 3, 4], z⟩
theorem fiOk4 (z : Bool) : FIok Try.prog 4 (fi4 z) := fiOk_of _ Try.func4 (by kernel_rfl)
noncomputable def fi5 (z : Bool) : FI := fiOf Try.f5 ⟨[1, 3, 4, 9, 10, 11], z⟩
theorem fiOk5 (z : Bool) : FIok Try.prog 5 (fi5 z) := fiOk_of _ Try.func5 (by kernel_rfl)
noncomputable def fi6 (z : Bool) : FI := fiOf Try.f6 ⟨[1, 4, 10, 11, 16, 17], z⟩
theorem fiOk6 (z : Bool) : FIok Try.prog 6 (fi6 z) := fiOk_of _ Try.func6 (by kernel_rfl)
noncomputable def fi7 (z : Bool) : FI := fiOf Try.f7 ⟨[1, 3, 4, 5, 6], z⟩
theorem fiOk7 (z : Bool) : FIok Try.prog 7 (fi7 z) := fiOk_of _ Try.func7 (by kernel_rfl)
noncomputable def fi8 (z : Bool) : FI := fiOf Try.f8 ⟨[1, 3, 4], z⟩
theorem fiOk8 (z : Bool) : FIok Try.prog 8 (fi8 z) := fiOk_of _ Try.func8 (by kernel_rfl)
noncomputable def fi9 (z : Bool) : FI := fiOf Try.f9 ⟨[1, 3, 4, 5, 6], z⟩
theorem fiOk9 (z : Bool) : FIok Try.prog 9 (fi9 z) := fiOk_of _ Try.func9 (by kernel_rfl)
noncomputable def fi10 (z : Bool) : FI := fiOf Try.f10 ⟨[], z⟩
theorem fiOk10 (z : Bool) : FIok Try.prog 10 (fi10 z) := fiOk_of _ Try.func10 (by kernel_rfl)
noncomputable def fi11 (z : Bool) : FI := fiOf Try.f11 ⟨[], z⟩
theorem fiOk11 (z : Bool) : FIok Try.prog 11 (fi11 z) := fiOk_of _ Try.func11 (by kernel_rfl)
noncomputable def fi12 (z : Bool) : FI := fiOf Try.f12 ⟨[], z⟩
theorem fiOk12 (z : Bool) : FIok Try.prog 12 (fi12 z) := fiOk_of _ Try.func12 (by kernel_rfl)
noncomputable def fi13 (z : Bool) : FI := fiOf Try.f13 ⟨[3, 4, 5], z⟩
theorem fiOk13 (z : Bool) : FIok Try.prog 13 (fi13 z) := fiOk_of _ Try.func13 (by kernel_rfl)
noncomputable def fi14 (z : Bool) : FI := fiOf Try.f14 ⟨[1, 3, 4], z⟩
theorem fiOk14 (z : Bool) : FIok Try.prog 14 (fi14 z) := fiOk_of _ Try.func14 (by kernel_rfl)
noncomputable def fi15 (z : Bool) : FI := fiOf Try.f15 ⟨[], z⟩
theorem fiOk15 (z : Bool) : FIok Try.prog 15 (fi15 z) := fiOk_of _ Try.func15 (by kernel_rfl)
noncomputable def fi17 (z : Bool) : FI := fiOf Try.f17 ⟨[], z⟩
theorem fiOk17 (z : Bool) : FIok Try.prog 17 (fi17 z) := fiOk_of _ Try.func17 (by kernel_rfl)
noncomputable def fi18 (z : Bool) : FI := fiOf Try.f18 ⟨[], z⟩
theorem fiOk18 (z : Bool) : FIok Try.prog 18 (fi18 z) := fiOk_of _ Try.func18 (by kernel_rfl)
noncomputable def fi19 (z : Bool) : FI := fiOf Try.f19 ⟨[], z⟩
theorem fiOk19 (z : Bool) : FIok Try.prog 19 (fi19 z) := fiOk_of _ Try.func19 (by kernel_rfl)
noncomputable def fi20 (z : Bool) : FI := fiOf Try.f20 ⟨[], z⟩
theorem fiOk20 (z : Bool) : FIok Try.prog 20 (fi20 z) := fiOk_of _ Try.func20 (by kernel_rfl)
noncomputable def fi21 (z : Bool) : FI := fiOf Try.f21 ⟨[], z⟩
theorem fiOk21 (z : Bool) : FIok Try.prog 21 (fi21 z) := fiOk_of _ Try.func21 (by kernel_rfl)
noncomputable def fi22 (z : Bool) : FI := fiOf Try.f22 ⟨[], z⟩
theorem fiOk22 (z : Bool) : FIok Try.prog 22 (fi22 z) := fiOk_of _ Try.func22 (by kernel_rfl)
noncomputable def fi23 (z : Bool) : FI := fiOf Try.f23 ⟨[], z⟩
theorem fiOk23 (z : Bool) : FIok Try.prog 23 (fi23 z) := fiOk_of _ Try.func23 (by kernel_rfl)
noncomputable def fi24 (z : Bool) : FI := fiOf Try.f24 ⟨[], z⟩
theorem fiOk24 (z : Bool) : FIok Try.prog 24 (fi24 z) := fiOk_of _ Try.func24 (by kernel_rfl)
noncomputable def fi25 (z : Bool) : FI := fiOf Try.f25 ⟨[], z⟩
theorem fiOk25 (z : Bool) : FIok Try.prog 25 (fi25 z) := fiOk_of _ Try.func25 (by kernel_rfl)
noncomputable def fi27 (z : Bool) : FI := fiOf Try.f27 ⟨[], z⟩
theorem fiOk27 (z : Bool) : FIok Try.prog 27 (fi27 z) := fiOk_of _ Try.func27 (by kernel_rfl)
noncomputable def fi28 (z : Bool) : FI := fiOf Try.f28 ⟨[], z⟩
theorem fiOk28 (z : Bool) : FIok Try.prog 28 (fi28 z) := fiOk_of _ Try.func28 (by kernel_rfl)
noncomputable def fi29 (z : Bool) : FI := fiOf Try.f29 ⟨[], z⟩
theorem fiOk29 (z : Bool) : FIok Try.prog 29 (fi29 z) := fiOk_of _ Try.func29 (by kernel_rfl)
noncomputable def fi30 (z : Bool) : FI := fiOf Try.f30 ⟨[], z⟩
theorem fiOk30 (z : Bool) : FIok Try.prog 30 (fi30 z) := fiOk_of _ Try.func30 (by kernel_rfl)
noncomputable def fi31 (z : Bool) : FI := fiOf Try.f31 ⟨[], z⟩
theorem fiOk31 (z : Bool) : FIok Try.prog 31 (fi31 z) := fiOk_of _ Try.func31 (by kernel_rfl)
noncomputable def fi32 (z : Bool) : FI := fiOf Try.f32 ⟨[], z⟩
theorem fiOk32 (z : Bool) : FIok Try.prog 32 (fi32 z) := fiOk_of _ Try.func32 (by kernel_rfl)
noncomputable def fi33 (z : Bool) : FI := fiOf Try.f33 ⟨[], z⟩
theorem fiOk33 (z : Bool) : FIok Try.prog 33 (fi33 z) := fiOk_of _ Try.func33 (by kernel_rfl)
noncomputable def fi34 (z : Bool) : FI := fiOf Try.f34 ⟨[], z⟩
theorem fiOk34 (z : Bool) : FIok Try.prog 34 (fi34 z) := fiOk_of _ Try.func34 (by kernel_rfl)
noncomputable def fi35 (z : Bool) : FI := fiOf Try.f35 ⟨[], z⟩
theorem fiOk35 (z : Bool) : FIok Try.prog 35 (fi35 z) := fiOk_of _ Try.func35 (by kernel_rfl)
noncomputable def fi36 (z : Bool) : FI := fiOf Try.f36 ⟨[], z⟩
theorem fiOk36 (z : Bool) : FIok Try.prog 36 (fi36 z) := fiOk_of _ Try.func36 (by kernel_rfl)
noncomputable def fi37 (z : Bool) : FI := fiOf Try.f37 ⟨[], z⟩
theorem fiOk37 (z : Bool) : FIok Try.prog 37 (fi37 z) := fiOk_of _ Try.func37 (by kernel_rfl)
noncomputable def fi38 (z : Bool) : FI := fiOf Try.f38 ⟨[], z⟩
theorem fiOk38 (z : Bool) : FIok Try.prog 38 (fi38 z) := fiOk_of _ Try.func38 (by kernel_rfl)
noncomputable def fi39 (z : Bool) : FI := fiOf Try.f39 ⟨[1, 2, 5, 6], z⟩
theorem fiOk39 (z : Bool) : FIok Try.prog 39 (fi39 z) := fiOk_of _ Try.func39 (by kernel_rfl)
noncomputable def fi40 (z : Bool) : FI := fiOf Try.f40 ⟨[], z⟩
theorem fiOk40 (z : Bool) : FIok Try.prog 40 (fi40 z) := fiOk_of _ Try.func40 (by kernel_rfl)
noncomputable def fi41 (z : Bool) : FI := fiOf Try.f41 ⟨[], z⟩
theorem fiOk41 (z : Bool) : FIok Try.prog 41 (fi41 z) := fiOk_of _ Try.func41 (by kernel_rfl)
noncomputable def fi42 (z : Bool) : FI := fiOf Try.f42 ⟨[], z⟩
theorem fiOk42 (z : Bool) : FIok Try.prog 42 (fi42 z) := fiOk_of _ Try.func42 (by kernel_rfl)
noncomputable def fi43 (z : Bool) : FI := fiOf Try.f43 ⟨[], z⟩
theorem fiOk43 (z : Bool) : FIok Try.prog 43 (fi43 z) := fiOk_of _ Try.func43 (by kernel_rfl)
noncomputable def fi44 (z : Bool) : FI := fiOf Try.f44 ⟨[], z⟩
theorem fiOk44 (z : Bool) : FIok Try.prog 44 (fi44 z) := fiOk_of _ Try.func44 (by kernel_rfl)
noncomputable def fi45 (z : Bool) : FI := fiOf Try.f45 ⟨[], z⟩
theorem fiOk45 (z : Bool) : FIok Try.prog 45 (fi45 z) := fiOk_of _ Try.func45 (by kernel_rfl)
noncomputable def fi46 (z : Bool) : FI := fiOf Try.f46 ⟨[], z⟩
theorem fiOk46 (z : Bool) : FIok Try.prog 46 (fi46 z) := fiOk_of _ Try.func46 (by kernel_rfl)
noncomputable def fi47 (z : Bool) : FI := fiOf Try.f47 ⟨[], z⟩
theorem fiOk47 (z : Bool) : FIok Try.prog 47 (fi47 z) := fiOk_of _ Try.func47 (by kernel_rfl)
noncomputable def fi48 (z : Bool) : FI := fiOf Try.f48 ⟨[], z⟩
theorem fiOk48 (z : Bool) : FIok Try.prog 48 (fi48 z) := fiOk_of _ Try.func48 (by kernel_rfl)
noncomputable def fi49 (z : Bool) : FI := fiOf Try.f49 ⟨[], z⟩
theorem fiOk49 (z : Bool) : FIok Try.prog 49 (fi49 z) := fiOk_of _ Try.func49 (by kernel_rfl)
noncomputable def fi50 (z : Bool) : FI := fiOf Try.f50 ⟨[], z⟩
theorem fiOk50 (z : Bool) : FIok Try.prog 50 (fi50 z) := fiOk_of _ Try.func50 (by kernel_rfl)
noncomputable def fi51 (z : Bool) : FI := fiOf Try.f51 ⟨[], z⟩
theorem fiOk51 (z : Bool) : FIok Try.prog 51 (fi51 z) := fiOk_of _ Try.func51 (by kernel_rfl)
noncomputable def fi52 (z : Bool) : FI := fiOf Try.f52 ⟨[], z⟩
theorem fiOk52 (z : Bool) : FIok Try.prog 52 (fi52 z) := fiOk_of _ Try.func52 (by kernel_rfl)
noncomputable def fi53 (z : Bool) : FI := fiOf Try.f53 ⟨[], z⟩
theorem fiOk53 (z : Bool) : FIok Try.prog 53 (fi53 z) := fiOk_of _ Try.func53 (by kernel_rfl)
noncomputable def fi54 (z : Bool) : FI := fiOf Try.f54 ⟨[], z⟩
theorem fiOk54 (z : Bool) : FIok Try.prog 54 (fi54 z) := fiOk_of _ Try.func54 (by kernel_rfl)
noncomputable def fi55 (z : Bool) : FI := fiOf Try.f55 ⟨[], z⟩
theorem fiOk55 (z : Bool) : FIok Try.prog 55 (fi55 z) := fiOk_of _ Try.func55 (by kernel_rfl)
noncomputable def fi56 (z : Bool) : FI := fiOf Try.f56 ⟨[], z⟩
theorem fiOk56 (z : Bool) : FIok Try.prog 56 (fi56 z) := fiOk_of _ Try.func56 (by kernel_rfl)
noncomputable def fi57 (z : Bool) : FI := fiOf Try.f57 ⟨[], z⟩
theorem fiOk57 (z : Bool) : FIok Try.prog 57 (fi57 z) := fiOk_of _ Try.func57 (by kernel_rfl)
noncomputable def fi58 (z : Bool) : FI := fiOf Try.f58 ⟨[], z⟩
theorem fiOk58 (z : Bool) : FIok Try.prog 58 (fi58 z) := fiOk_of _ Try.func58 (by kernel_rfl)
noncomputable def fi59 (z : Bool) : FI := fiOf Try.f59 ⟨[], z⟩
theorem fiOk59 (z : Bool) : FIok Try.prog 59 (fi59 z) := fiOk_of _ Try.func59 (by kernel_rfl)
noncomputable def fi60 (z : Bool) : FI := fiOf Try.f60 ⟨[], z⟩
theorem fiOk60 (z : Bool) : FIok Try.prog 60 (fi60 z) := fiOk_of _ Try.func60 (by kernel_rfl)
noncomputable def fi61 (z : Bool) : FI := fiOf Try.f61 ⟨[], z⟩
theorem fiOk61 (z : Bool) : FIok Try.prog 61 (fi61 z) := fiOk_of _ Try.func61 (by kernel_rfl)
noncomputable def fi62 (z : Bool) : FI := fiOf Try.f62 ⟨[], z⟩
theorem fiOk62 (z : Bool) : FIok Try.prog 62 (fi62 z) := fiOk_of _ Try.func62 (by kernel_rfl)
noncomputable def fi63 (z : Bool) : FI := fiOf Try.f63 ⟨[], z⟩
theorem fiOk63 (z : Bool) : FIok Try.prog 63 (fi63 z) := fiOk_of _ Try.func63 (by kernel_rfl)
noncomputable def fi64 (z : Bool) : FI := fiOf Try.f64 ⟨[], z⟩
theorem fiOk64 (z : Bool) : FIok Try.prog 64 (fi64 z) := fiOk_of _ Try.func64 (by kernel_rfl)
noncomputable def fi65 (z : Bool) : FI := fiOf Try.f65 ⟨[], z⟩
theorem fiOk65 (z : Bool) : FIok Try.prog 65 (fi65 z) := fiOk_of _ Try.func65 (by kernel_rfl)
noncomputable def fi66 (z : Bool) : FI := fiOf Try.f66 ⟨[], z⟩
theorem fiOk66 (z : Bool) : FIok Try.prog 66 (fi66 z) := fiOk_of _ Try.func66 (by kernel_rfl)
noncomputable def fi67 (z : Bool) : FI := fiOf Try.f67 ⟨[], z⟩
theorem fiOk67 (z : Bool) : FIok Try.prog 67 (fi67 z) := fiOk_of _ Try.func67 (by kernel_rfl)
noncomputable def fns (z : Bool) : Tr FI := (.node 36 (.node 19 (.node 10 (.node 6 (.node 4 (.leaf 3 (fi3 z)) (.node 5 (.leaf 4 (fi4 z)) (.leaf 5 (fi5 z)))) (.node 8 (.node 7 (.leaf 6 (fi6 z)) (.leaf 7 (fi7 z))) (.node 9 (.leaf 8 (fi8 z)) (.leaf 9 (fi9 z))))) (.node 14 (.node 12 (.node 11 (.leaf 10 (fi10 z)) (.leaf 11 (fi11 z))) (.node 13 (.leaf 12 (fi12 z)) (.leaf 13 (fi13 z)))) (.node 17 (.node 15 (.leaf 14 (fi14 z)) (.leaf 15 (fi15 z))) (.node 18 (.leaf 17 (fi17 z)) (.leaf 18 (fi18 z)))))) (.node 28 (.node 23 (.node 21 (.node 20 (.leaf 19 (fi19 z)) (.leaf 20 (fi20 z))) (.node 22 (.leaf 21 (fi21 z)) (.leaf 22 (fi22 z)))) (.node 25 (.node 24 (.leaf 23 (fi23 z)) (.leaf 24 (fi24 z))) (.node 27 (.leaf 25 (fi25 z)) (.leaf 27 (fi27 z))))) (.node 32 (.node 30 (.node 29 (.leaf 28 (fi28 z)) (.leaf 29 (fi29 z))) (.node 31 (.leaf 30 (fi30 z)) (.leaf 31 (fi31 z)))) (.node 34 (.node 33 (.leaf 32 (fi32 z)) (.leaf 33 (fi33 z))) (.node 35 (.leaf 34 (fi34 z)) (.leaf 35 (fi35 z))))))) (.node 52 (.node 44 (.node 40 (.node 38 (.node 37 (.leaf 36 (fi36 z)) (.leaf 37 (fi37 z))) (.node 39 (.leaf 38 (fi38 z)) (.leaf 39 (fi39 z)))) (.node 42 (.node 41 (.leaf 40 (fi40 z)) (.leaf 41 (fi41 z))) (.node 43 (.leaf 42 (fi42 z)) (.leaf 43 (fi43 z))))) (.node 48 (.node 46 (.node 45 (.leaf 44 (fi44 z)) (.leaf 45 (fi45 z))) (.node 47 (.leaf 46 (fi46 z)) (.leaf 47 (fi47 z)))) (.node 50 (.node 49 (.leaf 48 (fi48 z)) (.leaf 49 (fi49 z))) (.node 51 (.leaf 50 (fi50 z)) (.leaf 51 (fi51 z)))))) (.node 60 (.node 56 (.node 54 (.node 53 (.leaf 52 (fi52 z)) (.leaf 53 (fi53 z))) (.node 55 (.leaf 54 (fi54 z)) (.leaf 55 (fi55 z)))) (.node 58 (.node 57 (.leaf 56 (fi56 z)) (.leaf 57 (fi57 z))) (.node 59 (.leaf 58 (fi58 z)) (.leaf 59 (fi59 z))))) (.node 64 (.node 62 (.node 61 (.leaf 60 (fi60 z)) (.leaf 61 (fi61 z))) (.node 63 (.leaf 62 (fi62 z)) (.leaf 63 (fi63 z)))) (.node 66 (.node 65 (.leaf 64 (fi64 z)) (.leaf 65 (fi65 z))) (.node 67 (.leaf 66 (fi66 z)) (.leaf 67 (fi67 z))))))))
theorem fok (z : Bool) : FOk Try.prog (fns z).get := fOk_of (t := fns z) (⟨⟨⟨⟨⟨fiOk3 z, ⟨fiOk4 z, fiOk5 z⟩⟩, ⟨⟨fiOk6 z, fiOk7 z⟩, ⟨fiOk8 z, fiOk9 z⟩⟩⟩, ⟨⟨⟨fiOk10 z, fiOk11 z⟩, ⟨fiOk12 z, fiOk13 z⟩⟩, ⟨⟨fiOk14 z, fiOk15 z⟩, ⟨fiOk17 z, fiOk18 z⟩⟩⟩⟩, ⟨⟨⟨⟨fiOk19 z, fiOk20 z⟩, ⟨fiOk21 z, fiOk22 z⟩⟩, ⟨⟨fiOk23 z, fiOk24 z⟩, ⟨fiOk25 z, fiOk27 z⟩⟩⟩, ⟨⟨⟨fiOk28 z, fiOk29 z⟩, ⟨fiOk30 z, fiOk31 z⟩⟩, ⟨⟨fiOk32 z, fiOk33 z⟩, ⟨fiOk34 z, fiOk35 z⟩⟩⟩⟩⟩, ⟨⟨⟨⟨⟨fiOk36 z, fiOk37 z⟩, ⟨fiOk38 z, fiOk39 z⟩⟩, ⟨⟨fiOk40 z, fiOk41 z⟩, ⟨fiOk42 z, fiOk43 z⟩⟩⟩, ⟨⟨⟨fiOk44 z, fiOk45 z⟩, ⟨fiOk46 z, fiOk47 z⟩⟩, ⟨⟨fiOk48 z, fiOk49 z⟩, ⟨fiOk50 z, fiOk51 z⟩⟩⟩⟩, ⟨⟨⟨⟨fiOk52 z, fiOk53 z⟩, ⟨fiOk54 z, fiOk55 z⟩⟩, ⟨⟨fiOk56 z, fiOk57 z⟩, ⟨fiOk58 z, fiOk59 z⟩⟩⟩, ⟨⟨⟨fiOk60 z, fiOk61 z⟩, ⟨fiOk62 z, fiOk63 z⟩⟩, ⟨⟨fiOk64 z, fiOk65 z⟩, ⟨fiOk66 z, fiOk67 z⟩⟩⟩⟩⟩⟩)
theorem hmix : Try.prog.follows .mixedOrders = true := by kernel_rfl
end Go.Proofs.TabH
