/- The fields and literals of this program's types, as the own layer wants them. -/
import Derived.Test.YtdflfnednaleeaaDraw2
import Derived.Test.YtdflfnednaleeaaProg
namespace Go.Proofs.Ytdflfnednaleeaa
open Go

theorem mixed : Try.prog.follows .mixedOrders = true := by kernel_rfl

theorem fa23_0 : FieldAt Try.prog 23 0 0 := FieldAt.mk 3 Try.runUnderlying23 Try.sizeOf3 (by decide) rfl
theorem fa23_1 : FieldAt Try.prog 23 1 1 := FieldAt.mk 3 Try.runUnderlying23 Try.sizeOf3 (by decide) rfl
theorem fa26_0 : FieldAt Try.prog 26 0 0 := FieldAt.mk 4 Try.runUnderlying26 Try.sizeOf4 (by decide) rfl
theorem fa26_1 : FieldAt Try.prog 26 1 1 := FieldAt.mk 23 Try.runUnderlying26 Try.sizeOf23 (by decide) rfl
theorem fa26_2 : FieldAt Try.prog 26 2 3 := FieldAt.mk 23 Try.runUnderlying26 Try.sizeOf23 (by decide) rfl
theorem fa26_3 : FieldAt Try.prog 26 3 5 := FieldAt.mk 24 Try.runUnderlying26 Try.sizeOf24 (by decide) rfl
theorem fa51_0 : FieldAt Try.prog 51 0 0 := FieldAt.mk 3 Try.runUnderlying51 Try.sizeOf3 (by decide) rfl
theorem fa51_1 : FieldAt Try.prog 51 1 1 := FieldAt.mk 3 Try.runUnderlying51 Try.sizeOf3 (by decide) rfl
theorem fa54_0 : FieldAt Try.prog 54 0 0 := FieldAt.mk 43 Try.runUnderlying54 Try.sizeOf43 (by decide) rfl
theorem fa54_1 : FieldAt Try.prog 54 1 1 := FieldAt.mk 52 Try.runUnderlying54 Try.sizeOf52 (by decide) rfl
theorem fa65_0 : FieldAt Try.prog 65 0 0 := FieldAt.mk 23 Try.runUnderlying65 Try.sizeOf23 (by decide) rfl
theorem fa65_1 : FieldAt Try.prog 65 1 2 := FieldAt.mk 3 Try.runUnderlying65 Try.sizeOf3 (by decide) rfl
theorem fa65_2 : FieldAt Try.prog 65 2 3 := FieldAt.mk 23 Try.runUnderlying65 Try.sizeOf23 (by decide) rfl
theorem fa65_3 : FieldAt Try.prog 65 3 5 := FieldAt.mk 3 Try.runUnderlying65 Try.sizeOf3 (by decide) rfl
theorem fa65_4 : FieldAt Try.prog 65 4 6 := FieldAt.mk 23 Try.runUnderlying65 Try.sizeOf23 (by decide) rfl
theorem fa79_0 : FieldAt Try.prog 79 0 0 := FieldAt.mk 4 Try.runUnderlying79 Try.sizeOf4 (by decide) rfl
theorem fa79_1 : FieldAt Try.prog 79 1 1 := FieldAt.mk 74 Try.runUnderlying79 Try.sizeOf74 (by decide) rfl
theorem fa79_2 : FieldAt Try.prog 79 2 3 := FieldAt.mk 75 Try.runUnderlying79 Try.sizeOf75 (by decide) rfl
theorem fa79_3 : FieldAt Try.prog 79 3 4 := FieldAt.mk 76 Try.runUnderlying79 Try.sizeOf76 (by decide) rfl
theorem fa79_4 : FieldAt Try.prog 79 4 5 := FieldAt.mk 77 Try.runUnderlying79 Try.sizeOf77 (by decide) rfl
theorem fa88_0 : FieldAt Try.prog 88 0 0 := FieldAt.mk 3 Try.runUnderlying88 Try.sizeOf3 (by decide) rfl
theorem fa88_1 : FieldAt Try.prog 88 1 1 := FieldAt.mk 3 Try.runUnderlying88 Try.sizeOf3 (by decide) rfl
theorem fa88_2 : FieldAt Try.prog 88 2 2 := FieldAt.mk 23 Try.runUnderlying88 Try.sizeOf23 (by decide) rfl
theorem fa122_0 : FieldAt Try.prog 122 0 0 := FieldAt.mk 26 Try.runUnderlying122 Try.sizeOf26 (by decide) rfl
theorem fa122_1 : FieldAt Try.prog 122 1 6 := FieldAt.mk 27 Try.runUnderlying122 Try.sizeOf27 (by decide) rfl
theorem fa122_2 : FieldAt Try.prog 122 2 7 := FieldAt.mk 52 Try.runUnderlying122 Try.sizeOf52 (by decide) rfl
theorem fa122_3 : FieldAt Try.prog 122 3 8 := FieldAt.mk 4 Try.runUnderlying122 Try.sizeOf4 (by decide) rfl
theorem bf23 : BuildAt Try.prog 23 [(0, 1), (1, 1)] [.int .i64 0, .int .i64 0] := BuildAt.struct Try.runUnderlying23 Try.zeroValue23 (by intro W; simp [Try.sizeOf3])
theorem bf26 : BuildAt Try.prog 26 [(0, 1), (1, 2), (3, 2), (5, 1)] [.bool false, .int .i64 0, .int .i64 0, .int .i64 0, .int .i64 0, .slice none 0 0] := BuildAt.struct Try.runUnderlying26 Try.zeroValue26 (by intro W; simp [Try.sizeOf4, Try.sizeOf23, Try.sizeOf24])
theorem bf51 : BuildAt Try.prog 51 [(0, 1), (1, 1)] [.int .i64 0, .int .i64 0] := BuildAt.struct Try.runUnderlying51 Try.zeroValue51 (by intro W; simp [Try.sizeOf3])
theorem bf74 : BuildAt Try.prog 74 [(0, 1), (1, 1)] [.int .u8 0, .int .u8 0] := BuildAt.array Try.runUnderlying74 Try.zeroValue74 Try.sizeOf5 rfl
theorem bf88 : BuildAt Try.prog 88 [(0, 1), (1, 1), (2, 2)] [.int .i64 0, .int .i64 0, .int .i64 0, .int .i64 0] := BuildAt.struct Try.runUnderlying88 Try.zeroValue88 (by intro W; simp [Try.sizeOf3, Try.sizeOf23])
theorem bf91 : BuildAt Try.prog 91 [(0, 1), (1, 1), (2, 1)] [.int .u8 0, .int .u8 0, .int .u8 0] := BuildAt.array Try.runUnderlying91 Try.zeroValue91 Try.sizeOf5 rfl
theorem bf116 : BuildAt Try.prog 116 [(0, 1), (1, 1), (2, 1), (3, 1)] [.int .u8 0, .int .u8 0, .int .u8 0, .int .u8 0] := BuildAt.array Try.runUnderlying116 Try.zeroValue116 Try.sizeOf5 rfl
theorem bf122 : BuildAt Try.prog 122 [(0, 6), (6, 1), (7, 1), (8, 1)] [.bool false, .int .i64 0, .int .i64 0, .int .i64 0, .int .i64 0, .slice none 0 0, .slice none 0 0, .slice none 0 0, .bool false] := BuildAt.struct Try.runUnderlying122 Try.zeroValue122 (by intro W; simp [Try.sizeOf4, Try.sizeOf26, Try.sizeOf27, Try.sizeOf52])

end Go.Proofs.Ytdflfnednaleeaa
