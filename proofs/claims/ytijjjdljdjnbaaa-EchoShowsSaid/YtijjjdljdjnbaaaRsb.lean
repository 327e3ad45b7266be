/- Qb: Ty. -/
import Derived.Test.YtijjjdljdjnbaaaRows
import Derived.Test.YtijjjdljdjnbaaaRsa
section
/- What is known of this seat's types: printed by tyfacts.py. -/
namespace Go.Proofs.Ytijjjdljdjnbaaa
open Go.Sx
theorem mixed : Try.prog.follows .mixedOrders = true := by kernel_rfl
theorem ty2 : Ty Try.prog 2 1 8 [.int .i64 0] := ⟨⟨_, _, (by kernel_rfl : Try.prog.info? 2 = some Try.t2), rfl, rfl, rfl, rfl⟩⟩
theorem ty5 : Ty Try.prog 5 1 1 [.int .u8 0] := ⟨⟨_, _, (by kernel_rfl : Try.prog.info? 5 = some Try.t5), rfl, rfl, rfl, rfl⟩⟩
theorem ty24 : Ty Try.prog 24 6 64 [.int .i64 0, .int .i64 0, .slice none 0 0, .int .i64 0, .int .i64 0, .bool false] := ⟨⟨_, _, (by kernel_rfl : Try.prog.info? 24 = some Try.t24), rfl, rfl, rfl, rfl⟩⟩
theorem fa24_0 : FieldAt Try.prog 24 0 0 := FieldAt.mk Try.underlying24 rfl rfl Try.sizeOf3 (by decide)
theorem fa24_1 : FieldAt Try.prog 24 1 1 := FieldAt.mk Try.underlying24 rfl rfl Try.sizeOf3 (by decide)
theorem fa24_2 : FieldAt Try.prog 24 2 2 := FieldAt.mk Try.underlying24 rfl rfl Try.sizeOf22 (by decide)
theorem fo24_2 : FieldOf Try.prog 24 2 2 1 false := ⟨_, _, Try.underlying24, rfl, rfl, Try.isAgg22, Try.sizeOf22⟩
theorem fa24_3 : FieldAt Try.prog 24 3 3 := FieldAt.mk Try.underlying24 rfl rfl Try.sizeOf3 (by decide)
theorem fa24_4 : FieldAt Try.prog 24 4 4 := FieldAt.mk Try.underlying24 rfl rfl Try.sizeOf3 (by decide)
theorem fa24_5 : FieldAt Try.prog 24 5 5 := FieldAt.mk Try.underlying24 rfl rfl Try.sizeOf4 (by decide)
theorem pl24 : PlacesOf Try.prog 24 [(0, 1), (1, 1), (2, 1), (3, 1), (4, 1), (5, 1)] := ⟨_, Try.underlying24, fun _ => by kernel_rfl⟩
theorem ty28 : Ty Try.prog 28 3 40 [.int .i64 0, .int .i64 0, .slice none 0 0] := ⟨⟨_, _, (by kernel_rfl : Try.prog.info? 28 = some Try.t28), rfl, rfl, rfl, rfl⟩⟩
theorem fa28_0 : FieldAt Try.prog 28 0 0 := FieldAt.mk Try.underlying28 rfl rfl Try.sizeOf3 (by decide)
theorem fa28_1 : FieldAt Try.prog 28 1 1 := FieldAt.mk Try.underlying28 rfl rfl Try.sizeOf3 (by decide)
theorem fa28_2 : FieldAt Try.prog 28 2 2 := FieldAt.mk Try.underlying28 rfl rfl Try.sizeOf26 (by decide)
theorem pl28 : PlacesOf Try.prog 28 [(0, 1), (1, 1), (2, 1)] := ⟨_, Try.underlying28, fun _ => by kernel_rfl⟩
theorem ty30 : Ty Try.prog 30 6 64 [.int .i64 0, .int .i64 0, .slice none 0 0, .int .i64 0, .int .i64 0, .bool false] := ⟨⟨_, _, (by kernel_rfl : Try.prog.info? 30 = some Try.t30), rfl, rfl, rfl, rfl⟩⟩
theorem fa30_0 : FieldAt Try.prog 30 0 0 := FieldAt.mk Try.underlying30 rfl rfl Try.sizeOf28 (by decide)
theorem fa30_1 : FieldAt Try.prog 30 1 3 := FieldAt.mk Try.underlying30 rfl rfl Try.sizeOf3 (by decide)
theorem fa30_2 : FieldAt Try.prog 30 2 4 := FieldAt.mk Try.underlying30 rfl rfl Try.sizeOf3 (by decide)
theorem pl30 : PlacesOf Try.prog 30 [(0, 3), (3, 1), (4, 1), (5, 1)] := ⟨_, Try.underlying30, fun _ => by kernel_rfl⟩
theorem fa53_0 : FieldAt Try.prog 53 0 0 := FieldAt.mk Try.underlying53 rfl rfl Try.sizeOf5 (by decide)
theorem fa53_1 : FieldAt Try.prog 53 1 1 := FieldAt.mk Try.underlying53 rfl rfl Try.sizeOf51 (by decide)
theorem fa53_2 : FieldAt Try.prog 53 2 2 := FieldAt.mk Try.underlying53 rfl rfl Try.sizeOf51 (by decide)
theorem ty55 : Ty Try.prog 55 4 16 [.int .i32 0, .int .u8 0, .int .u32 0, .int .u32 0] := ⟨⟨_, _, (by kernel_rfl : Try.prog.info? 55 = some Try.t55), rfl, rfl, rfl, rfl⟩⟩
theorem fa55_0 : FieldAt Try.prog 55 0 0 := FieldAt.mk Try.underlying55 rfl rfl Try.sizeOf21 (by decide)
theorem fa55_1 : FieldAt Try.prog 55 1 1 := FieldAt.mk Try.underlying55 rfl rfl Try.sizeOf53 (by decide)
theorem pl55 : PlacesOf Try.prog 55 [(0, 1), (1, 3)] := ⟨_, Try.underlying55, fun _ => by kernel_rfl⟩
theorem ty63 : Ty Try.prog 63 10 16 [.bool false, .bool false, .bool false, .bool false, .bool false, .bool false, .bool false, .bool false, .int .u32 0, .int .u32 0] := ⟨⟨_, _, (by kernel_rfl : Try.prog.info? 63 = some Try.t63), rfl, rfl, rfl, rfl⟩⟩
theorem fa63_0 : FieldAt Try.prog 63 0 0 := FieldAt.mk Try.underlying63 rfl rfl Try.sizeOf61 (by decide)
theorem fa63_1 : FieldAt Try.prog 63 1 8 := FieldAt.mk Try.underlying63 rfl rfl Try.sizeOf51 (by decide)
theorem fa63_2 : FieldAt Try.prog 63 2 9 := FieldAt.mk Try.underlying63 rfl rfl Try.sizeOf51 (by decide)
theorem pl63 : PlacesOf Try.prog 63 [(0, 8), (8, 1), (9, 1)] := ⟨_, Try.underlying63, fun _ => by kernel_rfl⟩
theorem ty65 : Ty Try.prog 65 11 20 [.int .i32 0, .bool false, .bool false, .bool false, .bool false, .bool false, .bool false, .bool false, .bool false, .int .u32 0, .int .u32 0] := ⟨⟨_, _, (by kernel_rfl : Try.prog.info? 65 = some Try.t65), rfl, rfl, rfl, rfl⟩⟩
theorem fa65_0 : FieldAt Try.prog 65 0 0 := FieldAt.mk Try.underlying65 rfl rfl Try.sizeOf21 (by decide)
theorem fa65_1 : FieldAt Try.prog 65 1 1 := FieldAt.mk Try.underlying65 rfl rfl Try.sizeOf63 (by decide)
theorem pl65 : PlacesOf Try.prog 65 [(0, 1), (1, 10)] := ⟨_, Try.underlying65, fun _ => by kernel_rfl⟩
theorem ty77 : Ty Try.prog 77 10 112 [.int .i64 0, .int .i64 0, .slice none 0 0, .int .i64 0, .int .i64 0, .bool false, .string ⟨#[]⟩, .string ⟨#[]⟩, .int .u64 0, .int .u64 0] := ⟨⟨_, _, (by kernel_rfl : Try.prog.info? 77 = some Try.t77), rfl, rfl, rfl, rfl⟩⟩
theorem fa77_0 : FieldAt Try.prog 77 0 0 := FieldAt.mk Try.underlying77 rfl rfl Try.sizeOf24 (by decide)
theorem fo77_0 : FieldOf Try.prog 77 0 0 6 true := ⟨_, _, Try.underlying77, rfl, rfl, Try.isAgg24, Try.sizeOf24⟩
theorem fa77_1 : FieldAt Try.prog 77 1 6 := FieldAt.mk Try.underlying77 rfl rfl Try.sizeOf9 (by decide)
theorem fa77_2 : FieldAt Try.prog 77 2 7 := FieldAt.mk Try.underlying77 rfl rfl Try.sizeOf9 (by decide)
theorem fa77_3 : FieldAt Try.prog 77 3 8 := FieldAt.mk Try.underlying77 rfl rfl Try.sizeOf75 (by decide)
theorem fa77_4 : FieldAt Try.prog 77 4 9 := FieldAt.mk Try.underlying77 rfl rfl Try.sizeOf75 (by decide)
theorem pl77 : PlacesOf Try.prog 77 [(0, 6), (6, 1), (7, 1), (8, 1), (9, 1)] := ⟨_, Try.underlying77, fun _ => by kernel_rfl⟩
theorem ty98 : Ty Try.prog 98 13 152 [.bool false, .int .i64 0, .int .i64 0, .slice none 0 0, .int .i64 0, .int .i64 0, .bool false, .string ⟨#[]⟩, .string ⟨#[]⟩, .int .u64 0, .int .u64 0, .int .u64 0, .slice none 0 0] := ⟨⟨_, _, (by kernel_rfl : Try.prog.info? 98 = some Try.t98), rfl, rfl, rfl, rfl⟩⟩
theorem fa98_0 : FieldAt Try.prog 98 0 0 := FieldAt.mk Try.underlying98 rfl rfl Try.sizeOf4 (by decide)
theorem fa98_1 : FieldAt Try.prog 98 1 1 := FieldAt.mk Try.underlying98 rfl rfl Try.sizeOf77 (by decide)
theorem fa98_2 : FieldAt Try.prog 98 2 11 := FieldAt.mk Try.underlying98 rfl rfl Try.sizeOf75 (by decide)
theorem fa98_3 : FieldAt Try.prog 98 3 12 := FieldAt.mk Try.underlying98 rfl rfl Try.sizeOf32 (by decide)
theorem ty154 : Ty Try.prog 154 2 16 [.int .i64 0, .int .i64 0] := ⟨⟨_, _, (by kernel_rfl : Try.prog.info? 154 = some Try.t154), rfl, rfl, rfl, rfl⟩⟩
theorem fa154_0 : FieldAt Try.prog 154 0 0 := FieldAt.mk Try.underlying154 rfl rfl Try.sizeOf3 (by decide)
theorem fa154_1 : FieldAt Try.prog 154 1 1 := FieldAt.mk Try.underlying154 rfl rfl Try.sizeOf3 (by decide)
theorem pl154 : PlacesOf Try.prog 154 [(0, 1), (1, 1)] := ⟨_, Try.underlying154, fun _ => by kernel_rfl⟩
theorem ty156 : Ty Try.prog 156 18 192 [.bool false, .int .i64 0, .int .i64 0, .slice none 0 0, .int .i64 0, .int .i64 0, .bool false, .string ⟨#[]⟩, .string ⟨#[]⟩, .int .u64 0, .int .u64 0, .slice none 0 0, .int .i64 0, .int .i64 0, .bool false, .int .u64 0, .int .i64 0, .int .i64 0] := ⟨⟨_, _, (by kernel_rfl : Try.prog.info? 156 = some Try.t156), rfl, rfl, rfl, rfl⟩⟩
theorem fa156_0 : FieldAt Try.prog 156 0 0 := FieldAt.mk Try.underlying156 rfl rfl Try.sizeOf4 (by decide)
theorem fa156_1 : FieldAt Try.prog 156 1 1 := FieldAt.mk Try.underlying156 rfl rfl Try.sizeOf77 (by decide)
theorem fa156_2 : FieldAt Try.prog 156 2 11 := FieldAt.mk Try.underlying156 rfl rfl Try.sizeOf102 (by decide)
theorem fa156_3 : FieldAt Try.prog 156 3 12 := FieldAt.mk Try.underlying156 rfl rfl Try.sizeOf154 (by decide)
theorem fa156_4 : FieldAt Try.prog 156 4 14 := FieldAt.mk Try.underlying156 rfl rfl Try.sizeOf4 (by decide)
theorem fa156_5 : FieldAt Try.prog 156 5 15 := FieldAt.mk Try.underlying156 rfl rfl Try.sizeOf75 (by decide)
theorem fa156_6 : FieldAt Try.prog 156 6 16 := FieldAt.mk Try.underlying156 rfl rfl Try.sizeOf3 (by decide)
theorem fa156_7 : FieldAt Try.prog 156 7 17 := FieldAt.mk Try.underlying156 rfl rfl Try.sizeOf3 (by decide)
theorem pl156 : PlacesOf Try.prog 156 [(0, 1), (1, 10), (11, 1), (12, 2), (14, 1), (15, 1), (16, 1), (17, 1)] := ⟨_, Try.underlying156, fun _ => by kernel_rfl⟩
theorem ty162 : Ty Try.prog 162 4 32 [.int .u64 0, .int .i64 0, .int .i64 0, .int .i32 0] := ⟨⟨_, _, (by kernel_rfl : Try.prog.info? 162 = some Try.t162), rfl, rfl, rfl, rfl⟩⟩
theorem fa162_0 : FieldAt Try.prog 162 0 0 := FieldAt.mk Try.underlying162 rfl rfl Try.sizeOf75 (by decide)
theorem fa162_1 : FieldAt Try.prog 162 1 1 := FieldAt.mk Try.underlying162 rfl rfl Try.sizeOf3 (by decide)
theorem fa162_2 : FieldAt Try.prog 162 2 2 := FieldAt.mk Try.underlying162 rfl rfl Try.sizeOf3 (by decide)
theorem fa162_3 : FieldAt Try.prog 162 3 3 := FieldAt.mk Try.underlying162 rfl rfl Try.sizeOf21 (by decide)
theorem pl162 : PlacesOf Try.prog 162 [(0, 1), (1, 1), (2, 1), (3, 1)] := ⟨_, Try.underlying162, fun _ => by kernel_rfl⟩
end Go.Proofs.Ytijjjdljdjnbaaa
end
