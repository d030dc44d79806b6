/- The fields and literals of this program's types, as the own layer wants them. -/
import Derived.Test.YteecidddfcbabaaDraw2
import Derived.Test.YteecidddfcbabaaProg
namespace Go.Proofs.Yteecidddfcbabaa
open Go

theorem mixed : Try.prog.follows .mixedOrders = true := by kernel_rfl

theorem fa23_0 : FieldAt Try.prog 23 0 0 := FieldAt.mk 3 Try.runUnderlying23 Try.sizeOf3 (by decide) rfl
theorem fa23_1 : FieldAt Try.prog 23 1 1 := FieldAt.mk 3 Try.runUnderlying23 Try.sizeOf3 (by decide) rfl
theorem fa25_0 : FieldAt Try.prog 25 0 0 := FieldAt.mk 3 Try.runUnderlying25 Try.sizeOf3 (by decide) rfl
theorem fa25_1 : FieldAt Try.prog 25 1 1 := FieldAt.mk 3 Try.runUnderlying25 Try.sizeOf3 (by decide) rfl
theorem fa25_2 : FieldAt Try.prog 25 2 2 := FieldAt.mk 3 Try.runUnderlying25 Try.sizeOf3 (by decide) rfl
theorem fa25_3 : FieldAt Try.prog 25 3 3 := FieldAt.mk 23 Try.runUnderlying25 Try.sizeOf23 (by decide) rfl
theorem fa25_4 : FieldAt Try.prog 25 4 5 := FieldAt.mk 23 Try.runUnderlying25 Try.sizeOf23 (by decide) rfl
theorem fa25_5 : FieldAt Try.prog 25 5 7 := FieldAt.mk 23 Try.runUnderlying25 Try.sizeOf23 (by decide) rfl
theorem fa25_6 : FieldAt Try.prog 25 6 9 := FieldAt.mk 23 Try.runUnderlying25 Try.sizeOf23 (by decide) rfl
theorem fa25_7 : FieldAt Try.prog 25 7 11 := FieldAt.mk 23 Try.runUnderlying25 Try.sizeOf23 (by decide) rfl
theorem fa28_0 : FieldAt Try.prog 28 0 0 := FieldAt.mk 3 Try.runUnderlying28 Try.sizeOf3 (by decide) rfl
theorem fa28_1 : FieldAt Try.prog 28 1 1 := FieldAt.mk 26 Try.runUnderlying28 Try.sizeOf26 (by decide) rfl
theorem fa28_2 : FieldAt Try.prog 28 2 3 := FieldAt.mk 23 Try.runUnderlying28 Try.sizeOf23 (by decide) rfl
theorem fa28_3 : FieldAt Try.prog 28 3 5 := FieldAt.mk 23 Try.runUnderlying28 Try.sizeOf23 (by decide) rfl
theorem fa47_0 : FieldAt Try.prog 47 0 0 := FieldAt.mk 45 Try.runUnderlying47 Try.sizeOf45 (by decide) rfl
theorem fa47_1 : FieldAt Try.prog 47 1 1 := FieldAt.mk 23 Try.runUnderlying47 Try.sizeOf23 (by decide) rfl
theorem fa47_2 : FieldAt Try.prog 47 2 3 := FieldAt.mk 23 Try.runUnderlying47 Try.sizeOf23 (by decide) rfl
theorem fa47_3 : FieldAt Try.prog 47 3 5 := FieldAt.mk 23 Try.runUnderlying47 Try.sizeOf23 (by decide) rfl
theorem fa62_0 : FieldAt Try.prog 62 0 0 := FieldAt.mk 58 Try.runUnderlying62 Try.sizeOf58 (by decide) rfl
theorem fa62_1 : FieldAt Try.prog 62 1 3 := FieldAt.mk 59 Try.runUnderlying62 Try.sizeOf59 (by decide) rfl
theorem fa62_2 : FieldAt Try.prog 62 2 7 := FieldAt.mk 60 Try.runUnderlying62 Try.sizeOf60 (by decide) rfl
theorem fa68_0 : FieldAt Try.prog 68 0 0 := FieldAt.mk 3 Try.runUnderlying68 Try.sizeOf3 (by decide) rfl
theorem fa68_1 : FieldAt Try.prog 68 1 1 := FieldAt.mk 3 Try.runUnderlying68 Try.sizeOf3 (by decide) rfl
theorem fa70_0 : FieldAt Try.prog 70 0 0 := FieldAt.mk 23 Try.runUnderlying70 Try.sizeOf23 (by decide) rfl
theorem fa70_1 : FieldAt Try.prog 70 1 2 := FieldAt.mk 68 Try.runUnderlying70 Try.sizeOf68 (by decide) rfl
theorem fa76_0 : FieldAt Try.prog 76 0 0 := FieldAt.mk 25 Try.runUnderlying76 Try.sizeOf25 (by decide) rfl
theorem fa101_0 : FieldAt Try.prog 101 0 0 := FieldAt.mk 26 Try.runUnderlying101 Try.sizeOf26 (by decide) rfl
theorem fa101_1 : FieldAt Try.prog 101 1 2 := FieldAt.mk 3 Try.runUnderlying101 Try.sizeOf3 (by decide) rfl
theorem fa101_2 : FieldAt Try.prog 101 2 3 := FieldAt.mk 3 Try.runUnderlying101 Try.sizeOf3 (by decide) rfl
theorem fa101_3 : FieldAt Try.prog 101 3 4 := FieldAt.mk 3 Try.runUnderlying101 Try.sizeOf3 (by decide) rfl
theorem fa101_4 : FieldAt Try.prog 101 4 5 := FieldAt.mk 3 Try.runUnderlying101 Try.sizeOf3 (by decide) rfl
theorem fa101_5 : FieldAt Try.prog 101 5 6 := FieldAt.mk 3 Try.runUnderlying101 Try.sizeOf3 (by decide) rfl
theorem fa101_6 : FieldAt Try.prog 101 6 7 := FieldAt.mk 3 Try.runUnderlying101 Try.sizeOf3 (by decide) rfl
theorem fa108_0 : FieldAt Try.prog 108 0 0 := FieldAt.mk 70 Try.runUnderlying108 Try.sizeOf70 (by decide) rfl
theorem fa108_1 : FieldAt Try.prog 108 1 4 := FieldAt.mk 3 Try.runUnderlying108 Try.sizeOf3 (by decide) rfl
theorem fa108_2 : FieldAt Try.prog 108 2 5 := FieldAt.mk 3 Try.runUnderlying108 Try.sizeOf3 (by decide) rfl
theorem fa122_0 : FieldAt Try.prog 122 0 0 := FieldAt.mk 23 Try.runUnderlying122 Try.sizeOf23 (by decide) rfl
theorem bf23 : BuildAt Try.prog 23 [(0, 1), (1, 1)] [.int .i64 0, .int .i64 0] := BuildAt.struct Try.runUnderlying23 Try.zeroValue23 (by intro W; simp [Try.sizeOf3])
theorem bf25 : BuildAt Try.prog 25 [(0, 1), (1, 1), (2, 1), (3, 2), (5, 2), (7, 2), (9, 2), (11, 2)] [.int .i64 0, .int .i64 0, .int .i64 0, .int .i64 0, .int .i64 0, .int .i64 0, .int .i64 0, .int .i64 0, .int .i64 0, .int .i64 0, .int .i64 0, .int .i64 0, .int .i64 0] := BuildAt.struct Try.runUnderlying25 Try.zeroValue25 (by intro W; simp [Try.sizeOf3, Try.sizeOf23])
theorem bf26 : BuildAt Try.prog 26 [(0, 1), (1, 1)] [.int .i64 0, .int .i64 0] := BuildAt.array Try.runUnderlying26 Try.zeroValue26 Try.sizeOf3 rfl
theorem bf47 : BuildAt Try.prog 47 [(0, 1), (1, 2), (3, 2), (5, 2)] [.int .i64 0, .int .i64 0, .int .i64 0, .int .i64 0, .int .i64 0, .int .i64 0, .int .i64 0] := BuildAt.struct Try.runUnderlying47 Try.zeroValue47 (by intro W; simp [Try.sizeOf23, Try.sizeOf45])
theorem bf68 : BuildAt Try.prog 68 [(0, 1), (1, 1)] [.int .i64 0, .int .i64 0] := BuildAt.struct Try.runUnderlying68 Try.zeroValue68 (by intro W; simp [Try.sizeOf3])
theorem bf70 : BuildAt Try.prog 70 [(0, 2), (2, 2)] [.int .i64 0, .int .i64 0, .int .i64 0, .int .i64 0] := BuildAt.struct Try.runUnderlying70 Try.zeroValue70 (by intro W; simp [Try.sizeOf23, Try.sizeOf68])
theorem bf72 : BuildAt Try.prog 72 [(0, 13), (13, 13)] [.int .i64 0, .int .i64 0, .int .i64 0, .int .i64 0, .int .i64 0, .int .i64 0, .int .i64 0, .int .i64 0, .int .i64 0, .int .i64 0, .int .i64 0, .int .i64 0, .int .i64 0, .int .i64 0, .int .i64 0, .int .i64 0, .int .i64 0, .int .i64 0, .int .i64 0, .int .i64 0, .int .i64 0, .int .i64 0, .int .i64 0, .int .i64 0, .int .i64 0, .int .i64 0] := BuildAt.array Try.runUnderlying72 Try.zeroValue72 Try.sizeOf25 rfl
theorem bf76 : BuildAt Try.prog 76 [(0, 13)] [.int .i64 0, .int .i64 0, .int .i64 0, .int .i64 0, .int .i64 0, .int .i64 0, .int .i64 0, .int .i64 0, .int .i64 0, .int .i64 0, .int .i64 0, .int .i64 0, .int .i64 0] := BuildAt.struct Try.runUnderlying76 Try.zeroValue76 (by intro W; simp [Try.sizeOf25])
theorem bf101 : BuildAt Try.prog 101 [(0, 2), (2, 1), (3, 1), (4, 1), (5, 1), (6, 1), (7, 1)] [.int .i64 0, .int .i64 0, .int .i64 0, .int .i64 0, .int .i64 0, .int .i64 0, .int .i64 0, .int .i64 0] := BuildAt.struct Try.runUnderlying101 Try.zeroValue101 (by intro W; simp [Try.sizeOf3, Try.sizeOf26])
theorem bf108 : BuildAt Try.prog 108 [(0, 4), (4, 1), (5, 1)] [.int .i64 0, .int .i64 0, .int .i64 0, .int .i64 0, .int .i64 0, .int .i64 0] := BuildAt.struct Try.runUnderlying108 Try.zeroValue108 (by intro W; simp [Try.sizeOf3, Try.sizeOf70])
theorem bf122 : BuildAt Try.prog 122 [(0, 2)] [.int .i64 0, .int .i64 0] := BuildAt.struct Try.runUnderlying122 Try.zeroValue122 (by intro W; simp [Try.sizeOf23])
theorem bf124 : BuildAt Try.prog 124 [(0, 2), (2, 2)] [.int .i64 0, .int .i64 0, .int .i64 0, .int .i64 0] := BuildAt.array Try.runUnderlying124 Try.zeroValue124 Try.sizeOf122 rfl
theorem bf126 : BuildAt Try.prog 126 [(0, 2), (2, 2)] [.int .i64 0, .int .i64 0, .int .i64 0, .int .i64 0] := BuildAt.array Try.runUnderlying126 Try.zeroValue126 Try.sizeOf23 rfl

end Go.Proofs.Yteecidddfcbabaa
