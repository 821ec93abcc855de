/- What a function tells at the calls that occur, each a closed run by the kernel; and how a table of such runs is a contract; without conditions. -/
import Derived.Test.YthfdfjkmccbikaaGreatDoorQckZ
set_option linter.all false
set_option linter.deprecated false
set_option maxRecDepth 1000000
set_option maxHeartbeats 0
namespace Go.Proofs.TabZ
open Go Go.Eng
/-- A call of config.Parse, what it tells, and what is new behind it. -/
def e0 : Ent := ⟨[.s ⟨⟨[]⟩⟩], 5, [], .tup [.agg [.v (.slice none 0 0), .s ⟨⟨[]⟩⟩, .i .i64 0, .i .i64 0, .v (.slice none 0 0), .i .i64 0, .i .i64 0, .v (.float .f64 0)], .i .i64 8], []⟩
theorem o0 : entOk parse8 e0 = true := by kernel_rfl
/-- A call of config.Parse, what it tells, and what is new behind it. -/
def e1 : Ent := ⟨[.s ⟨⟨[104, 111, 115, 116, 32, 104, 46, 120, 10, 103, 114, 101, 121, 32, 48, 10, 101, 120, 112, 105, 114, 101, 32, 49, 48, 48, 10, 102, 97, 105, 108, 115, 32, 50, 10, 112, 97, 117, 115, 101, 32, 48, 10, 102, 108, 111, 111, 114, 32, 110, 97, 110, 10, 98, 97, 99, 107, 111, 102, 102, 32, 49, 10, 116, 101, 110, 97, 110, 116, 32, 97, 32, 49, 48, 52, 56, 53, 55, 54, 32, 49, 48, 32, 50, 48, 48, 48, 32, 53, 32, 48, 49, 32, 49, 32, 115, 109, 116, 112, 10]⟩⟩], 5, [], .tup [.agg [.v (.slice none 0 0), .s ⟨⟨[]⟩⟩, .i .i64 0, .i .i64 0, .v (.slice none 0 0), .i .i64 0, .i .i64 0, .v (.float .f64 0)], .i .i64 8], []⟩
theorem o1 : entOk parse8 e1 = true := by kernel_rfl
/-- A call of config.Parse, what it tells, and what is new behind it. -/
def e2 : Ent := ⟨[.s ⟨⟨[104, 111, 115, 116, 32, 32, 104, 46, 120, 10, 103, 114, 101, 121, 32, 48, 10, 101, 120, 112, 105, 114, 101, 32, 49, 48, 48, 10, 102, 97, 105, 108, 115, 32, 50, 10, 112, 97, 117, 115, 101, 32, 48, 10, 102, 108, 111, 111, 114, 32, 110, 97, 110, 10, 98, 97, 99, 107, 111, 102, 102, 32, 49, 10, 116, 101, 110, 97, 110, 116, 32, 97, 32, 49, 48, 52, 56, 53, 55, 54, 32, 49, 48, 32, 50, 48, 48, 48, 32, 53, 32, 49, 32, 49, 32, 115, 109, 116, 112, 10]⟩⟩], 5, [], .tup [.agg [.v (.slice none 0 0), .s ⟨⟨[]⟩⟩, .i .i64 0, .i .i64 0, .v (.slice none 0 0), .i .i64 0, .i .i64 0, .v (.float .f64 0)], .i .i64 8], []⟩
theorem o2 : entOk parse8 e2 = true := by kernel_rfl
/-- A call of config.Parse, what it tells, and what is new behind it. -/
def e3 : Ent := ⟨[.s ⟨⟨[104, 111, 115, 116, 32, 104, 46, 120, 10, 103, 114, 101, 121, 32, 48, 10, 101, 120, 112, 105, 114, 101, 32, 49, 48, 48, 10, 102, 97, 105, 108, 115, 32, 50, 10, 112, 97, 117, 115, 101, 32, 48, 10, 102, 108, 111, 111, 114, 32, 110, 97, 110, 10, 98, 97, 99, 107, 111, 102, 102, 32, 49, 10, 116, 101, 110, 97, 110, 116, 32, 97, 32, 49, 48, 52, 56, 53, 55, 54, 32, 49, 48, 32, 50, 48, 48, 48, 32, 53, 32, 49, 32, 48, 49, 32, 115, 109, 116, 112, 10]⟩⟩], 5, [], .tup [.agg [.v (.slice none 0 0), .s ⟨⟨[]⟩⟩, .i .i64 0, .i .i64 0, .v (.slice none 0 0), .i .i64 0, .i .i64 0, .v (.float .f64 0)], .i .i64 8], []⟩
theorem o3 : entOk parse8 e3 = true := by kernel_rfl
/-- A call of config.Parse, what it tells, and what is new behind it. -/
def e4 : Ent := ⟨[.s ⟨⟨[104, 111, 115, 116, 32, 48, 104, 46, 120, 10, 103, 114, 101, 121, 32, 48, 10, 101, 120, 112, 105, 114, 101, 32, 49, 48, 48, 10, 102, 97, 105, 108, 115, 32, 50, 10, 112, 97, 117, 115, 101, 32, 48, 10, 102, 108, 111, 111, 114, 32, 110, 97, 110, 10, 98, 97, 99, 107, 111, 102, 102, 32, 49, 10, 116, 101, 110, 97, 110, 116, 32, 97, 32, 49, 48, 52, 56, 53, 55, 54, 32, 49, 48, 32, 50, 48, 48, 48, 32, 53, 32, 49, 32, 49, 32, 115, 109, 116, 112, 10]⟩⟩], 5, [], .tup [.agg [.sl 5 0 1 none, .s ⟨⟨[48, 104, 46, 120]⟩⟩, .i .i64 0, .i .i64 100, .sl 6 0 1 none, .i .i64 2, .i .i64 0, .v (.float .f64 9221120237041090561)], .i .i64 0], [.vec 39 1 [.cs [⟨⟨[97]⟩⟩], .ci .i64 [1048576], .ci .i64 [10], .ci .i64 [2000], .ci .i64 [5], .ci .i64 [5], .ci .i64 [1], .ci .i64 [1], .ci .i64 [0], .cb [false]], .vec 3 1 [.ci .i64 [1]]]⟩
theorem o4 : entOk parse8 e4 = true := by kernel_rfl
/-- A call of config.Parse, what it tells, and what is new behind it. -/
def e5 : Ent := ⟨[.s ⟨⟨[104, 111, 115, 116, 32, 104, 46, 120, 10, 103, 114, 101, 121, 32, 48, 10, 101, 120, 112, 105, 114, 101, 32, 49, 48, 48, 10, 102, 97, 105, 108, 115, 32, 50, 10, 112, 97, 117, 115, 101, 32, 48, 10, 102, 108, 111, 111, 114, 32, 110, 97, 110, 10, 98, 97, 99, 107, 111, 102, 102, 32, 49, 10, 116, 101, 110, 97, 110, 116, 32, 97, 32, 49, 48, 52, 56, 53, 55, 54, 32, 49, 48, 32, 50, 48, 48, 48, 32, 53, 32, 49, 32, 49, 32, 48, 115, 109, 116, 112, 10]⟩⟩], 5, [], .tup [.agg [.v (.slice none 0 0), .s ⟨⟨[]⟩⟩, .i .i64 0, .i .i64 0, .v (.slice none 0 0), .i .i64 0, .i .i64 0, .v (.float .f64 0)], .i .i64 8], []⟩
theorem o5 : entOk parse8 e5 = true := by kernel_rfl
/-- A call of config.Parse, what it tells, and what is new behind it. -/
def e6 : Ent := ⟨[.s ⟨⟨[104, 111, 115, 116, 32, 104, 46, 120, 10, 103, 114, 101, 121, 32, 48, 10, 101, 120, 112, 105, 114, 101, 32, 49, 48, 48, 10, 102, 97, 105, 108, 115, 32, 50, 10, 112, 97, 117, 115, 101, 32, 48, 10, 102, 108, 111, 111, 114, 32, 110, 97, 110, 10, 98, 97, 99, 107, 111, 102, 102, 32, 49, 10, 116, 101, 110, 97, 110, 116, 32, 97, 32, 49, 48, 52, 56, 53, 55, 54, 32, 49, 48, 32, 50, 48, 48, 48, 32, 48, 53, 32, 49, 32, 49, 32, 115, 109, 116, 112, 10]⟩⟩], 5, [], .tup [.agg [.v (.slice none 0 0), .s ⟨⟨[]⟩⟩, .i .i64 0, .i .i64 0, .v (.slice none 0 0), .i .i64 0, .i .i64 0, .v (.float .f64 0)], .i .i64 8], []⟩
theorem o6 : entOk parse8 e6 = true := by kernel_rfl
end Go.Proofs.TabZ
