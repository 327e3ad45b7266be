/- Qb: Ty. -/
import Derived.Test.YtijjjdljdjnbaaaRows
import Derived.Test.YtijjjdljdjnbaaaRda
section
/- What is known of this seat's types: printed by tyfacts.py. -/
namespace Go.Proofs.Ytijjjdljdjnbaaa
open Go.Sx
theorem mixed : Try.prog.follows .mixedOrders = true := by kernel_rfl
theorem ty3 : Ty Try.prog 3 1 8 [.int .i64 0] := ⟨⟨_, _, (by kernel_rfl : Try.prog.info? 3 = some Try.t3), rfl, rfl, rfl, rfl⟩⟩
theorem ty5 : Ty Try.prog 5 1 1 [.int .u8 0] := ⟨⟨_, _, (by kernel_rfl : Try.prog.info? 5 = some Try.t5), rfl, rfl, rfl, rfl⟩⟩
theorem ty24 : Ty Try.prog 24 6 64 [.int .i64 0, .int .i64 0, .slice none 0 0, .int .i64 0, .int .i64 0, .bool false] := ⟨⟨_, _, (by kernel_rfl : Try.prog.info? 24 = some Try.t24), rfl, rfl, rfl, rfl⟩⟩
theorem fa24_0 : FieldAt Try.prog 24 0 0 := FieldAt.mk Try.underlying24 rfl rfl Try.sizeOf3 (by decide)
theorem fa24_1 : FieldAt Try.prog 24 1 1 := FieldAt.mk Try.underlying24 rfl rfl Try.sizeOf3 (by decide)
theorem fa24_2 : FieldAt Try.prog 24 2 2 := FieldAt.mk Try.underlying24 rfl rfl Try.sizeOf22 (by decide)
theorem fa24_3 : FieldAt Try.prog 24 3 3 := FieldAt.mk Try.underlying24 rfl rfl Try.sizeOf3 (by decide)
theorem fa24_4 : FieldAt Try.prog 24 4 4 := FieldAt.mk Try.underlying24 rfl rfl Try.sizeOf3 (by decide)
theorem fa24_5 : FieldAt Try.prog 24 5 5 := FieldAt.mk Try.underlying24 rfl rfl Try.sizeOf4 (by decide)
theorem pl24 : PlacesOf Try.prog 24 [(0, 1), (1, 1), (2, 1), (3, 1), (4, 1), (5, 1)] := ⟨_, Try.underlying24, fun _ => by kernel_rfl⟩
theorem ty28 : Ty Try.prog 28 3 40 [.int .i64 0, .int .i64 0, .slice none 0 0] := ⟨⟨_, _, (by kernel_rfl : Try.prog.info? 28 = some Try.t28), rfl, rfl, rfl, rfl⟩⟩
theorem fa28_0 : FieldAt Try.prog 28 0 0 := FieldAt.mk Try.underlying28 rfl rfl Try.sizeOf3 (by decide)
theorem fa28_1 : FieldAt Try.prog 28 1 1 := FieldAt.mk Try.underlying28 rfl rfl Try.sizeOf3 (by decide)
theorem fa28_2 : FieldAt Try.prog 28 2 2 := FieldAt.mk Try.underlying28 rfl rfl Try.sizeOf26 (by decide)
theorem pl28 : PlacesOf Try.prog 28 [(0, 1), (1, 1), (2, 1)] := ⟨_, Try.underlying28, fun _ => by kernel_rfl⟩
theorem ty30 : Ty Try.prog 30 6 64 [.int .i64 0, .int .i64 0, .slice none 0 0, .int .i64 0, .int .i64 0, .bool false] := ⟨⟨_, _, (by kernel_rfl : Try.prog.info? 30 = some Try.t30), rfl, rfl, rfl, rfl⟩⟩
theorem fa30_0 : FieldAt Try.prog 30 0 0 := FieldAt.mk Try.underlying30 rfl rfl Try.sizeOf28 (by decide)
theorem fa30_1 : FieldAt Try.prog 30 1 3 := FieldAt.mk Try.underlying30 rfl rfl Try.sizeOf3 (by decide)
theorem fa30_2 : FieldAt Try.prog 30 2 4 := FieldAt.mk Try.underlying30 rfl rfl Try.sizeOf3 (by decide)
theorem fa30_3 : FieldAt Try.prog 30 3 5 := FieldAt.mk Try.underlying30 rfl rfl Try.sizeOf4 (by decide)
theorem pl30 : PlacesOf Try.prog 30 [(0, 3), (3, 1), (4, 1), (5, 1)] := ⟨_, Try.underlying30, fun _ => by kernel_rfl⟩
theorem ty53 : Ty Try.prog 53 3 12 [.int .u8 0, .int .u32 0, .int .u32 0] := ⟨⟨_, _, (by kernel_rfl : Try.prog.info? 53 = some Try.t53), rfl, rfl, rfl, rfl⟩⟩
theorem fa53_0 : FieldAt Try.prog 53 0 0 := FieldAt.mk Try.underlying53 rfl rfl Try.sizeOf5 (by decide)
theorem fa53_1 : FieldAt Try.prog 53 1 1 := FieldAt.mk Try.underlying53 rfl rfl Try.sizeOf51 (by decide)
theorem fa53_2 : FieldAt Try.prog 53 2 2 := FieldAt.mk Try.underlying53 rfl rfl Try.sizeOf51 (by decide)
theorem pl53 : PlacesOf Try.prog 53 [(0, 1), (1, 1), (2, 1)] := ⟨_, Try.underlying53, fun _ => by kernel_rfl⟩
theorem ty55 : Ty Try.prog 55 4 16 [.int .i32 0, .int .u8 0, .int .u32 0, .int .u32 0] := ⟨⟨_, _, (by kernel_rfl : Try.prog.info? 55 = some Try.t55), rfl, rfl, rfl, rfl⟩⟩
theorem fa55_0 : FieldAt Try.prog 55 0 0 := FieldAt.mk Try.underlying55 rfl rfl Try.sizeOf21 (by decide)
theorem fa55_1 : FieldAt Try.prog 55 1 1 := FieldAt.mk Try.underlying55 rfl rfl Try.sizeOf53 (by decide)
theorem pl55 : PlacesOf Try.prog 55 [(0, 1), (1, 3)] := ⟨_, Try.underlying55, fun _ => by kernel_rfl⟩
theorem ty63 : Ty Try.prog 63 10 16 [.bool false, .bool false, .bool false, .bool false, .bool false, .bool false, .bool false, .bool false, .int .u32 0, .int .u32 0] := ⟨⟨_, _, (by kernel_rfl : Try.prog.info? 63 = some Try.t63), rfl, rfl, rfl, rfl⟩⟩
theorem fa63_0 : FieldAt Try.prog 63 0 0 := FieldAt.mk Try.underlying63 rfl rfl Try.sizeOf61 (by decide)
theorem fa63_1 : FieldAt Try.prog 63 1 8 := FieldAt.mk Try.underlying63 rfl rfl Try.sizeOf51 (by decide)
theorem fa63_2 : FieldAt Try.prog 63 2 9 := FieldAt.mk Try.underlying63 rfl rfl Try.sizeOf51 (by decide)
theorem pl63 : PlacesOf Try.prog 63 [(0, 8), (8, 1), (9, 1)] := ⟨_, Try.underlying63, fun _ => by kernel_rfl⟩
theorem ty65 : Ty Try.prog 65 11 20 [.int .i32 0, .bool false, .bool false, .bool false, .bool false, .bool false, .bool false, .bool false, .bool false, .int .u32 0, .int .u32 0] := ⟨⟨_, _, (by kernel_rfl : Try.prog.info? 65 = some Try.t65), rfl, rfl, rfl, rfl⟩⟩
theorem fa65_0 : FieldAt Try.prog 65 0 0 := FieldAt.mk Try.underlying65 rfl rfl Try.sizeOf21 (by decide)
theorem fa65_1 : FieldAt Try.prog 65 1 1 := FieldAt.mk Try.underlying65 rfl rfl Try.sizeOf63 (by decide)
theorem pl65 : PlacesOf Try.prog 65 [(0, 1), (1, 10)] := ⟨_, Try.underlying65, fun _ => by kernel_rfl⟩
theorem ty77 : Ty Try.prog 77 10 112 [.int .i64 0, .int .i64 0, .slice none 0 0, .int .i64 0, .int .i64 0, .bool false, .string ⟨#[]⟩, .string ⟨#[]⟩, .int .u64 0, .int .u64 0] := ⟨⟨_, _, (by kernel_rfl : Try.prog.info? 77 = some Try.t77), rfl, rfl, rfl, rfl⟩⟩
theorem fa77_0 : FieldAt Try.prog 77 0 0 := FieldAt.mk Try.underlying77 rfl rfl Try.sizeOf24 (by decide)
theorem fa77_1 : FieldAt Try.prog 77 1 6 := FieldAt.mk Try.underlying77 rfl rfl Try.sizeOf9 (by decide)
theorem fa77_2 : FieldAt Try.prog 77 2 7 := FieldAt.mk Try.underlying77 rfl rfl Try.sizeOf9 (by decide)
theorem fa77_3 : FieldAt Try.prog 77 3 8 := FieldAt.mk Try.underlying77 rfl rfl Try.sizeOf75 (by decide)
theorem fa77_4 : FieldAt Try.prog 77 4 9 := FieldAt.mk Try.underlying77 rfl rfl Try.sizeOf75 (by decide)
theorem pl77 : PlacesOf Try.prog 77 [(0, 6), (6, 1), (7, 1), (8, 1), (9, 1)] := ⟨_, Try.underlying77, fun _ => by kernel_rfl⟩
theorem ty80 : Ty Try.prog 80 10 112 [.int .i64 0, .int .i64 0, .slice none 0 0, .int .i64 0, .int .i64 0, .bool false, .string ⟨#[]⟩, .string ⟨#[]⟩, .int .u64 0, .int .u64 0] := ⟨⟨_, _, (by kernel_rfl : Try.prog.info? 80 = some Try.t80), rfl, rfl, rfl, rfl⟩⟩
theorem fa80_0 : FieldAt Try.prog 80 0 0 := FieldAt.mk Try.underlying80 rfl rfl Try.sizeOf30 (by decide)
theorem fa80_1 : FieldAt Try.prog 80 1 6 := FieldAt.mk Try.underlying80 rfl rfl Try.sizeOf9 (by decide)
theorem fa80_2 : FieldAt Try.prog 80 2 7 := FieldAt.mk Try.underlying80 rfl rfl Try.sizeOf9 (by decide)
theorem fa80_3 : FieldAt Try.prog 80 3 8 := FieldAt.mk Try.underlying80 rfl rfl Try.sizeOf75 (by decide)
theorem fa80_4 : FieldAt Try.prog 80 4 9 := FieldAt.mk Try.underlying80 rfl rfl Try.sizeOf75 (by decide)
theorem pl80 : PlacesOf Try.prog 80 [(0, 6), (6, 1), (7, 1), (8, 1), (9, 1)] := ⟨_, Try.underlying80, fun _ => by kernel_rfl⟩
theorem ty115 : Ty Try.prog 115 2 32 [.int .i64 0, .slice none 0 0] := ⟨⟨_, _, (by kernel_rfl : Try.prog.info? 115 = some Try.t115), rfl, rfl, rfl, rfl⟩⟩
theorem fa115_0 : FieldAt Try.prog 115 0 0 := FieldAt.mk Try.underlying115 rfl rfl Try.sizeOf3 (by decide)
theorem fa115_1 : FieldAt Try.prog 115 1 1 := FieldAt.mk Try.underlying115 rfl rfl Try.sizeOf22 (by decide)
theorem pl115 : PlacesOf Try.prog 115 [(0, 1), (1, 1)] := ⟨_, Try.underlying115, fun _ => by kernel_rfl⟩
theorem ty137 : Ty Try.prog 137 2 32 [.int .u8 0, .slice none 0 0] := ⟨⟨_, _, (by kernel_rfl : Try.prog.info? 137 = some Try.t137), rfl, rfl, rfl, rfl⟩⟩
theorem fa137_0 : FieldAt Try.prog 137 0 0 := FieldAt.mk Try.underlying137 rfl rfl Try.sizeOf5 (by decide)
theorem fa137_1 : FieldAt Try.prog 137 1 1 := FieldAt.mk Try.underlying137 rfl rfl Try.sizeOf32 (by decide)
theorem pl137 : PlacesOf Try.prog 137 [(0, 1), (1, 1)] := ⟨_, Try.underlying137, fun _ => by kernel_rfl⟩
theorem ty138 : Ty Try.prog 138 1 24 [.slice none 0 0] := ⟨⟨_, _, (by kernel_rfl : Try.prog.info? 138 = some Try.t138), rfl, rfl, rfl, rfl⟩⟩
theorem ty141 : Ty Try.prog 141 2 24 [.string ⟨#[]⟩, .int .u64 0] := ⟨⟨_, _, (by kernel_rfl : Try.prog.info? 141 = some Try.t141), rfl, rfl, rfl, rfl⟩⟩
theorem pl141 : PlacesOf Try.prog 141 [(0, 1), (1, 1)] := ⟨_, Try.underlying141, fun _ => by kernel_rfl⟩
theorem ty184 : Ty Try.prog 184 2 8 [.int .u32 0, .int .u32 0] := ⟨⟨_, _, (by kernel_rfl : Try.prog.info? 184 = some Try.t184), rfl, rfl, rfl, rfl⟩⟩
theorem ty185 : Ty Try.prog 185 2 16 [.int .u64 0, .int .u64 0] := ⟨⟨_, _, (by kernel_rfl : Try.prog.info? 185 = some Try.t185), rfl, rfl, rfl, rfl⟩⟩
theorem ty209 : Ty Try.prog 209 4 32 [.int .u64 0, .int .u64 0, .int .u64 0, .int .u64 0] := ⟨⟨_, _, (by kernel_rfl : Try.prog.info? 209 = some Try.t209), rfl, rfl, rfl, rfl⟩⟩
end Go.Proofs.Ytijjjdljdjnbaaa
end
