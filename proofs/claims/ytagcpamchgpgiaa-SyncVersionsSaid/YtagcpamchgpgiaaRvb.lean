/- Qb: Ty. -/
import Derived.Test.YtagcpamchgpgiaaRows
import Derived.Test.YtagcpamchgpgiaaRva
section
/- What is known of this seat's types: printed by tyfacts.py. -/
namespace Go.Proofs.Ytagcpamchgpgiaa
open Go.Sx
theorem mixed : Try.prog.follows .mixedOrders = true := by kernel_rfl
theorem ty3 : Ty Try.prog 3 1 8 [.int .i64 0] := ⟨⟨_, _, (by kernel_rfl : Try.prog.info? 3 = some Try.t3), rfl, rfl, rfl, rfl⟩⟩
theorem ty5 : Ty Try.prog 5 1 1 [.int .u8 0] := ⟨⟨_, _, (by kernel_rfl : Try.prog.info? 5 = some Try.t5), rfl, rfl, rfl, rfl⟩⟩
theorem ty22 : Ty Try.prog 22 1 8 [.int .u64 0] := ⟨⟨_, _, (by kernel_rfl : Try.prog.info? 22 = some Try.t22), rfl, rfl, rfl, rfl⟩⟩
theorem ty60 : Ty Try.prog 60 6 64 [.int .i64 0, .int .i64 0, .slice none 0 0, .int .i64 0, .int .i64 0, .bool false] := ⟨⟨_, _, (by kernel_rfl : Try.prog.info? 60 = some Try.t60), rfl, rfl, rfl, rfl⟩⟩
theorem fa60_0 : FieldAt Try.prog 60 0 0 := FieldAt.mk Try.underlying60 rfl rfl Try.sizeOf3 (by decide)
theorem fa60_1 : FieldAt Try.prog 60 1 1 := FieldAt.mk Try.underlying60 rfl rfl Try.sizeOf3 (by decide)
theorem fa60_2 : FieldAt Try.prog 60 2 2 := FieldAt.mk Try.underlying60 rfl rfl Try.sizeOf58 (by decide)
theorem fa60_3 : FieldAt Try.prog 60 3 3 := FieldAt.mk Try.underlying60 rfl rfl Try.sizeOf3 (by decide)
theorem fa60_4 : FieldAt Try.prog 60 4 4 := FieldAt.mk Try.underlying60 rfl rfl Try.sizeOf3 (by decide)
theorem fa60_5 : FieldAt Try.prog 60 5 5 := FieldAt.mk Try.underlying60 rfl rfl Try.sizeOf4 (by decide)
theorem pl60 : PlacesOf Try.prog 60 [(0, 1), (1, 1), (2, 1), (3, 1), (4, 1), (5, 1)] := ⟨_, Try.underlying60, fun _ => by kernel_rfl⟩
theorem ty62 : Ty Try.prog 62 10 112 [.int .i64 0, .int .i64 0, .slice none 0 0, .int .i64 0, .int .i64 0, .bool false, .string ⟨#[]⟩, .string ⟨#[]⟩, .int .u64 0, .int .u64 0] := ⟨⟨_, _, (by kernel_rfl : Try.prog.info? 62 = some Try.t62), rfl, rfl, rfl, rfl⟩⟩
theorem fa62_0 : FieldAt Try.prog 62 0 0 := FieldAt.mk Try.underlying62 rfl rfl Try.sizeOf60 (by decide)
theorem fa62_1 : FieldAt Try.prog 62 1 6 := FieldAt.mk Try.underlying62 rfl rfl Try.sizeOf9 (by decide)
theorem fa62_2 : FieldAt Try.prog 62 2 7 := FieldAt.mk Try.underlying62 rfl rfl Try.sizeOf9 (by decide)
theorem fa62_3 : FieldAt Try.prog 62 3 8 := FieldAt.mk Try.underlying62 rfl rfl Try.sizeOf22 (by decide)
theorem fa62_4 : FieldAt Try.prog 62 4 9 := FieldAt.mk Try.underlying62 rfl rfl Try.sizeOf22 (by decide)
theorem pl62 : PlacesOf Try.prog 62 [(0, 6), (6, 1), (7, 1), (8, 1), (9, 1)] := ⟨_, Try.underlying62, fun _ => by kernel_rfl⟩
theorem ty67 : Ty Try.prog 67 15 128 [.bool false, .bool false, .bool false, .int .i64 0, .int .i64 0, .slice none 0 0, .int .i64 0, .int .i64 0, .bool false, .string ⟨#[]⟩, .string ⟨#[]⟩, .int .u64 0, .int .u64 0, .int .u8 0, .int .u8 0] := ⟨⟨_, _, (by kernel_rfl : Try.prog.info? 67 = some Try.t67), rfl, rfl, rfl, rfl⟩⟩
theorem fa67_0 : FieldAt Try.prog 67 0 0 := FieldAt.mk Try.underlying67 rfl rfl Try.sizeOf4 (by decide)
theorem fa67_1 : FieldAt Try.prog 67 1 1 := FieldAt.mk Try.underlying67 rfl rfl Try.sizeOf4 (by decide)
theorem fa67_2 : FieldAt Try.prog 67 2 2 := FieldAt.mk Try.underlying67 rfl rfl Try.sizeOf4 (by decide)
theorem fa67_3 : FieldAt Try.prog 67 3 3 := FieldAt.mk Try.underlying67 rfl rfl Try.sizeOf62 (by decide)
theorem fa67_4 : FieldAt Try.prog 67 4 13 := FieldAt.mk Try.underlying67 rfl rfl Try.sizeOf5 (by decide)
theorem fa67_5 : FieldAt Try.prog 67 5 14 := FieldAt.mk Try.underlying67 rfl rfl Try.sizeOf5 (by decide)
theorem ty73 : Ty Try.prog 73 3 40 [.int .u64 0, .int .u64 0, .slice none 0 0] := ⟨⟨_, _, (by kernel_rfl : Try.prog.info? 73 = some Try.t73), rfl, rfl, rfl, rfl⟩⟩
theorem fa73_0 : FieldAt Try.prog 73 0 0 := FieldAt.mk Try.underlying73 rfl rfl Try.sizeOf22 (by decide)
theorem fa73_1 : FieldAt Try.prog 73 1 1 := FieldAt.mk Try.underlying73 rfl rfl Try.sizeOf22 (by decide)
theorem fa73_2 : FieldAt Try.prog 73 2 2 := FieldAt.mk Try.underlying73 rfl rfl Try.sizeOf23 (by decide)
theorem pl73 : PlacesOf Try.prog 73 [(0, 1), (1, 1), (2, 1)] := ⟨_, Try.underlying73, fun _ => by kernel_rfl⟩
theorem ty98 : Ty Try.prog 98 11 120 [.int .u64 0, .int .i64 0, .int .i64 0, .slice none 0 0, .int .i64 0, .int .i64 0, .bool false, .string ⟨#[]⟩, .string ⟨#[]⟩, .int .u64 0, .int .u64 0] := ⟨⟨_, _, (by kernel_rfl : Try.prog.info? 98 = some Try.t98), rfl, rfl, rfl, rfl⟩⟩
theorem fa98_0 : FieldAt Try.prog 98 0 0 := FieldAt.mk Try.underlying98 rfl rfl Try.sizeOf22 (by decide)
theorem fa98_1 : FieldAt Try.prog 98 1 1 := FieldAt.mk Try.underlying98 rfl rfl Try.sizeOf62 (by decide)
theorem pl98 : PlacesOf Try.prog 98 [(0, 1), (1, 10)] := ⟨_, Try.underlying98, fun _ => by kernel_rfl⟩
theorem ty102 : Ty Try.prog 102 26 288 [.bool false, .int .u64 0, .int .i64 0, .int .i64 0, .slice none 0 0, .int .i64 0, .int .i64 0, .bool false, .string ⟨#[]⟩, .string ⟨#[]⟩, .int .u64 0, .int .u64 0, .int .u64 0, .int .i64 0, .int .i64 0, .slice none 0 0, .int .i64 0, .int .i64 0, .bool false, .string ⟨#[]⟩, .string ⟨#[]⟩, .int .u64 0, .int .u64 0, .slice none 0 0, .int .u64 0, .int .i64 0] := ⟨⟨_, _, (by kernel_rfl : Try.prog.info? 102 = some Try.t102), rfl, rfl, rfl, rfl⟩⟩
theorem fa102_0 : FieldAt Try.prog 102 0 0 := FieldAt.mk Try.underlying102 rfl rfl Try.sizeOf4 (by decide)
theorem fa102_1 : FieldAt Try.prog 102 1 1 := FieldAt.mk Try.underlying102 rfl rfl Try.sizeOf98 (by decide)
theorem fa102_2 : FieldAt Try.prog 102 2 12 := FieldAt.mk Try.underlying102 rfl rfl Try.sizeOf98 (by decide)
theorem fa102_3 : FieldAt Try.prog 102 3 23 := FieldAt.mk Try.underlying102 rfl rfl Try.sizeOf100 (by decide)
theorem fa102_4 : FieldAt Try.prog 102 4 24 := FieldAt.mk Try.underlying102 rfl rfl Try.sizeOf22 (by decide)
theorem fa102_5 : FieldAt Try.prog 102 5 25 := FieldAt.mk Try.underlying102 rfl rfl Try.sizeOf3 (by decide)
theorem pl102 : PlacesOf Try.prog 102 [(0, 1), (1, 11), (12, 11), (23, 1), (24, 1), (25, 1)] := ⟨_, Try.underlying102, fun _ => by kernel_rfl⟩
theorem ty104 : Ty Try.prog 104 12 128 [.bool false, .int .u64 0, .int .i64 0, .int .i64 0, .slice none 0 0, .int .i64 0, .int .i64 0, .bool false, .string ⟨#[]⟩, .string ⟨#[]⟩, .int .u64 0, .int .u64 0] := ⟨⟨_, _, (by kernel_rfl : Try.prog.info? 104 = some Try.t104), rfl, rfl, rfl, rfl⟩⟩
theorem fa104_0 : FieldAt Try.prog 104 0 0 := FieldAt.mk Try.underlying104 rfl rfl Try.sizeOf4 (by decide)
theorem fa104_1 : FieldAt Try.prog 104 1 1 := FieldAt.mk Try.underlying104 rfl rfl Try.sizeOf98 (by decide)
theorem pl104 : PlacesOf Try.prog 104 [(0, 1), (1, 11)] := ⟨_, Try.underlying104, fun _ => by kernel_rfl⟩
theorem ty109 : Ty Try.prog 109 2 24 [.string ⟨#[]⟩, .int .u64 0] := ⟨⟨_, _, (by kernel_rfl : Try.prog.info? 109 = some Try.t109), rfl, rfl, rfl, rfl⟩⟩
theorem pl109 : PlacesOf Try.prog 109 [(0, 1), (1, 1)] := ⟨_, Try.underlying109, fun _ => by kernel_rfl⟩
theorem ty125 : Ty Try.prog 125 3 12 [.int .u8 0, .int .u32 0, .int .u32 0] := ⟨⟨_, _, (by kernel_rfl : Try.prog.info? 125 = some Try.t125), rfl, rfl, rfl, rfl⟩⟩
theorem fa125_0 : FieldAt Try.prog 125 0 0 := FieldAt.mk Try.underlying125 rfl rfl Try.sizeOf5 (by decide)
theorem fa125_1 : FieldAt Try.prog 125 1 1 := FieldAt.mk Try.underlying125 rfl rfl Try.sizeOf123 (by decide)
theorem fa125_2 : FieldAt Try.prog 125 2 2 := FieldAt.mk Try.underlying125 rfl rfl Try.sizeOf123 (by decide)
theorem pl125 : PlacesOf Try.prog 125 [(0, 1), (1, 1), (2, 1)] := ⟨_, Try.underlying125, fun _ => by kernel_rfl⟩
theorem ty127 : Ty Try.prog 127 4 16 [.int .i32 0, .int .u8 0, .int .u32 0, .int .u32 0] := ⟨⟨_, _, (by kernel_rfl : Try.prog.info? 127 = some Try.t127), rfl, rfl, rfl, rfl⟩⟩
theorem fa127_0 : FieldAt Try.prog 127 0 0 := FieldAt.mk Try.underlying127 rfl rfl Try.sizeOf21 (by decide)
theorem fa127_1 : FieldAt Try.prog 127 1 1 := FieldAt.mk Try.underlying127 rfl rfl Try.sizeOf125 (by decide)
theorem pl127 : PlacesOf Try.prog 127 [(0, 1), (1, 3)] := ⟨_, Try.underlying127, fun _ => by kernel_rfl⟩
theorem ty133 : Ty Try.prog 133 2 32 [.int .u8 0, .slice none 0 0] := ⟨⟨_, _, (by kernel_rfl : Try.prog.info? 133 = some Try.t133), rfl, rfl, rfl, rfl⟩⟩
theorem fa133_0 : FieldAt Try.prog 133 0 0 := FieldAt.mk Try.underlying133 rfl rfl Try.sizeOf5 (by decide)
theorem fa133_1 : FieldAt Try.prog 133 1 1 := FieldAt.mk Try.underlying133 rfl rfl Try.sizeOf23 (by decide)
theorem pl133 : PlacesOf Try.prog 133 [(0, 1), (1, 1)] := ⟨_, Try.underlying133, fun _ => by kernel_rfl⟩
theorem ty134 : Ty Try.prog 134 1 24 [.slice none 0 0] := ⟨⟨_, _, (by kernel_rfl : Try.prog.info? 134 = some Try.t134), rfl, rfl, rfl, rfl⟩⟩
theorem ty169 : Ty Try.prog 169 2 32 [.int .i64 0, .slice none 0 0] := ⟨⟨_, _, (by kernel_rfl : Try.prog.info? 169 = some Try.t169), rfl, rfl, rfl, rfl⟩⟩
theorem fa169_0 : FieldAt Try.prog 169 0 0 := FieldAt.mk Try.underlying169 rfl rfl Try.sizeOf3 (by decide)
theorem fa169_1 : FieldAt Try.prog 169 1 1 := FieldAt.mk Try.underlying169 rfl rfl Try.sizeOf58 (by decide)
theorem pl169 : PlacesOf Try.prog 169 [(0, 1), (1, 1)] := ⟨_, Try.underlying169, fun _ => by kernel_rfl⟩
theorem ty181 : Ty Try.prog 181 4 32 [.int .u64 0, .int .u64 0, .int .u64 0, .int .u64 0] := ⟨⟨_, _, (by kernel_rfl : Try.prog.info? 181 = some Try.t181), rfl, rfl, rfl, rfl⟩⟩
theorem ty191 : Ty Try.prog 191 2 8 [.int .u32 0, .int .u32 0] := ⟨⟨_, _, (by kernel_rfl : Try.prog.info? 191 = some Try.t191), rfl, rfl, rfl, rfl⟩⟩
theorem ty198 : Ty Try.prog 198 2 16 [.int .u64 0, .int .u64 0] := ⟨⟨_, _, (by kernel_rfl : Try.prog.info? 198 = some Try.t198), rfl, rfl, rfl, rfl⟩⟩
end Go.Proofs.Ytagcpamchgpgiaa
end
