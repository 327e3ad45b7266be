/- Qb: Ty. -/
import Derived.Test.YtpmapedhigjalaaRows
import Derived.Test.YtpmapedhigjalaaRga
section
/- What is known of this seat's types: printed by tyfacts.py. -/
namespace Go.Proofs.Ytpmapedhigjalaa
open Go.Sx
theorem mixed : Try.prog.follows .mixedOrders = true := by kernel_rfl
theorem ty3 : Ty Try.prog 3 1 8 [.int .i64 0] := ⟨⟨_, _, (by kernel_rfl : Try.prog.info? 3 = some Try.t3), rfl, rfl, rfl, rfl⟩⟩
theorem ty4 : Ty Try.prog 4 1 1 [.bool false] := ⟨⟨_, _, (by kernel_rfl : Try.prog.info? 4 = some Try.t4), rfl, rfl, rfl, rfl⟩⟩
theorem ty5 : Ty Try.prog 5 1 1 [.int .u8 0] := ⟨⟨_, _, (by kernel_rfl : Try.prog.info? 5 = some Try.t5), rfl, rfl, rfl, rfl⟩⟩
theorem ty73 : Ty Try.prog 73 1 24 [.slice none 0 0] := ⟨⟨_, _, (by kernel_rfl : Try.prog.info? 73 = some Try.t73), rfl, rfl, rfl, rfl⟩⟩
theorem ty80 : Ty Try.prog 80 32 32 [.int .u8 0, .int .u8 0, .int .u8 0, .int .u8 0, .int .u8 0, .int .u8 0, .int .u8 0, .int .u8 0, .int .u8 0, .int .u8 0, .int .u8 0, .int .u8 0, .int .u8 0, .int .u8 0, .int .u8 0, .int .u8 0, .int .u8 0, .int .u8 0, .int .u8 0, .int .u8 0, .int .u8 0, .int .u8 0, .int .u8 0, .int .u8 0, .int .u8 0, .int .u8 0, .int .u8 0, .int .u8 0, .int .u8 0, .int .u8 0, .int .u8 0, .int .u8 0] := ⟨⟨_, _, (by kernel_rfl : Try.prog.info? 80 = some Try.t80), rfl, rfl, rfl, rfl⟩⟩
theorem ty82 : Ty Try.prog 82 35 64 [.int .u64 0, .string ⟨#[]⟩, .int .i64 0, .int .u8 0, .int .u8 0, .int .u8 0, .int .u8 0, .int .u8 0, .int .u8 0, .int .u8 0, .int .u8 0, .int .u8 0, .int .u8 0, .int .u8 0, .int .u8 0, .int .u8 0, .int .u8 0, .int .u8 0, .int .u8 0, .int .u8 0, .int .u8 0, .int .u8 0, .int .u8 0, .int .u8 0, .int .u8 0, .int .u8 0, .int .u8 0, .int .u8 0, .int .u8 0, .int .u8 0, .int .u8 0, .int .u8 0, .int .u8 0, .int .u8 0, .int .u8 0] := ⟨⟨_, _, (by kernel_rfl : Try.prog.info? 82 = some Try.t82), rfl, rfl, rfl, rfl⟩⟩
theorem fa82_0 : FieldAt Try.prog 82 0 0 := FieldAt.mk Try.underlying82 rfl rfl Try.sizeOf72 (by decide)
theorem fa82_1 : FieldAt Try.prog 82 1 1 := FieldAt.mk Try.underlying82 rfl rfl Try.sizeOf9 (by decide)
theorem fa82_2 : FieldAt Try.prog 82 2 2 := FieldAt.mk Try.underlying82 rfl rfl Try.sizeOf3 (by decide)
theorem fo82_3 : FieldOf Try.prog 82 3 3 32 true := ⟨_, _, Try.underlying82, rfl, rfl, Try.isAgg80, Try.sizeOf80⟩
theorem pl82 : PlacesOf Try.prog 82 [(0, 1), (1, 1), (2, 1), (3, 32)] := ⟨_, Try.underlying82, fun _ => by kernel_rfl⟩
theorem ty86 : Ty Try.prog 86 2 16 [.int .i64 0, .int .u64 0] := ⟨⟨_, _, (by kernel_rfl : Try.prog.info? 86 = some Try.t86), rfl, rfl, rfl, rfl⟩⟩
theorem fa86_0 : FieldAt Try.prog 86 0 0 := FieldAt.mk Try.underlying86 rfl rfl Try.sizeOf3 (by decide)
theorem fa86_1 : FieldAt Try.prog 86 1 1 := FieldAt.mk Try.underlying86 rfl rfl Try.sizeOf72 (by decide)
theorem pl86 : PlacesOf Try.prog 86 [(0, 1), (1, 1)] := ⟨_, Try.underlying86, fun _ => by kernel_rfl⟩
theorem ty88 : Ty Try.prog 88 3 24 [.int .i64 0, .int .i64 0, .int .u64 0] := ⟨⟨_, _, (by kernel_rfl : Try.prog.info? 88 = some Try.t88), rfl, rfl, rfl, rfl⟩⟩
theorem fa88_0 : FieldAt Try.prog 88 0 0 := FieldAt.mk Try.underlying88 rfl rfl Try.sizeOf3 (by decide)
theorem fa88_1 : FieldAt Try.prog 88 1 1 := FieldAt.mk Try.underlying88 rfl rfl Try.sizeOf86 (by decide)
theorem ty104 : Ty Try.prog 104 41 128 [.bool false, .int .u64 0, .string ⟨#[]⟩, .int .i64 0, .int .u8 0, .int .u8 0, .int .u8 0, .int .u8 0, .int .u8 0, .int .u8 0, .int .u8 0, .int .u8 0, .int .u8 0, .int .u8 0, .int .u8 0, .int .u8 0, .int .u8 0, .int .u8 0, .int .u8 0, .int .u8 0, .int .u8 0, .int .u8 0, .int .u8 0, .int .u8 0, .int .u8 0, .int .u8 0, .int .u8 0, .int .u8 0, .int .u8 0, .int .u8 0, .int .u8 0, .int .u8 0, .int .u8 0, .int .u8 0, .int .u8 0, .int .u8 0, .slice none 0 0, .int .i64 0, .int .u64 0, .int .i64 0, .bool false] := ⟨⟨_, _, (by kernel_rfl : Try.prog.info? 104 = some Try.t104), rfl, rfl, rfl, rfl⟩⟩
theorem fa104_0 : FieldAt Try.prog 104 0 0 := FieldAt.mk Try.underlying104 rfl rfl Try.sizeOf4 (by decide)
theorem fa104_1 : FieldAt Try.prog 104 1 1 := FieldAt.mk Try.underlying104 rfl rfl Try.sizeOf82 (by decide)
theorem fa104_2 : FieldAt Try.prog 104 2 36 := FieldAt.mk Try.underlying104 rfl rfl Try.sizeOf73 (by decide)
theorem fa104_3 : FieldAt Try.prog 104 3 37 := FieldAt.mk Try.underlying104 rfl rfl Try.sizeOf86 (by decide)
theorem fa104_4 : FieldAt Try.prog 104 4 39 := FieldAt.mk Try.underlying104 rfl rfl Try.sizeOf3 (by decide)
theorem fa104_5 : FieldAt Try.prog 104 5 40 := FieldAt.mk Try.underlying104 rfl rfl Try.sizeOf4 (by decide)
theorem pl104 : PlacesOf Try.prog 104 [(0, 1), (1, 35), (36, 1), (37, 2), (39, 1), (40, 1)] := ⟨_, Try.underlying104, fun _ => by kernel_rfl⟩
theorem ty142 : Ty Try.prog 142 4 64 [.slice none 0 0, .slice none 0 0, .int .i64 0, .bool false] := ⟨⟨_, _, (by kernel_rfl : Try.prog.info? 142 = some Try.t142), rfl, rfl, rfl, rfl⟩⟩
theorem fa142_0 : FieldAt Try.prog 142 0 0 := FieldAt.mk Try.underlying142 rfl rfl Try.sizeOf73 (by decide)
theorem fa142_1 : FieldAt Try.prog 142 1 1 := FieldAt.mk Try.underlying142 rfl rfl Try.sizeOf94 (by decide)
theorem fa142_2 : FieldAt Try.prog 142 2 2 := FieldAt.mk Try.underlying142 rfl rfl Try.sizeOf3 (by decide)
theorem fa142_3 : FieldAt Try.prog 142 3 3 := FieldAt.mk Try.underlying142 rfl rfl Try.sizeOf4 (by decide)
theorem pl142 : PlacesOf Try.prog 142 [(0, 1), (1, 1), (2, 1), (3, 1)] := ⟨_, Try.underlying142, fun _ => by kernel_rfl⟩
theorem ty172 : Ty Try.prog 172 8 32 [.int .u32 0, .int .u32 0, .int .u32 0, .int .u32 0, .int .u32 0, .int .u32 0, .int .u32 0, .int .u32 0] := ⟨⟨_, _, (by kernel_rfl : Try.prog.info? 172 = some Try.t172), rfl, rfl, rfl, rfl⟩⟩
theorem ty175 : Ty Try.prog 175 11 72 [.int .u32 0, .int .u32 0, .int .u32 0, .int .u32 0, .int .u32 0, .int .u32 0, .int .u32 0, .int .u32 0, .slice none 0 0, .int .i64 0, .bool false] := ⟨⟨_, _, (by kernel_rfl : Try.prog.info? 175 = some Try.t175), rfl, rfl, rfl, rfl⟩⟩
theorem fa175_0 : FieldAt Try.prog 175 0 0 := FieldAt.mk Try.underlying175 rfl rfl Try.sizeOf172 (by decide)
theorem fa175_1 : FieldAt Try.prog 175 1 8 := FieldAt.mk Try.underlying175 rfl rfl Try.sizeOf73 (by decide)
theorem fa175_2 : FieldAt Try.prog 175 2 9 := FieldAt.mk Try.underlying175 rfl rfl Try.sizeOf3 (by decide)
theorem fa175_3 : FieldAt Try.prog 175 3 10 := FieldAt.mk Try.underlying175 rfl rfl Try.sizeOf4 (by decide)
theorem pl175 : PlacesOf Try.prog 175 [(0, 8), (8, 1), (9, 1), (10, 1)] := ⟨_, Try.underlying175, fun _ => by kernel_rfl⟩
theorem ty199 : Ty Try.prog 199 64 256 [.int .u32 0, .int .u32 0, .int .u32 0, .int .u32 0, .int .u32 0, .int .u32 0, .int .u32 0, .int .u32 0, .int .u32 0, .int .u32 0, .int .u32 0, .int .u32 0, .int .u32 0, .int .u32 0, .int .u32 0, .int .u32 0, .int .u32 0, .int .u32 0, .int .u32 0, .int .u32 0, .int .u32 0, .int .u32 0, .int .u32 0, .int .u32 0, .int .u32 0, .int .u32 0, .int .u32 0, .int .u32 0, .int .u32 0, .int .u32 0, .int .u32 0, .int .u32 0, .int .u32 0, .int .u32 0, .int .u32 0, .int .u32 0, .int .u32 0, .int .u32 0, .int .u32 0, .int .u32 0, .int .u32 0, .int .u32 0, .int .u32 0, .int .u32 0, .int .u32 0, .int .u32 0, .int .u32 0, .int .u32 0, .int .u32 0, .int .u32 0, .int .u32 0, .int .u32 0, .int .u32 0, .int .u32 0, .int .u32 0, .int .u32 0, .int .u32 0, .int .u32 0, .int .u32 0, .int .u32 0, .int .u32 0, .int .u32 0, .int .u32 0, .int .u32 0] := ⟨⟨_, _, (by kernel_rfl : Try.prog.info? 199 = some Try.t199), rfl, rfl, rfl, rfl⟩⟩
theorem ty201 : Ty Try.prog 201 16 64 [.int .u32 0, .int .u32 0, .int .u32 0, .int .u32 0, .int .u32 0, .int .u32 0, .int .u32 0, .int .u32 0, .int .u32 0, .int .u32 0, .int .u32 0, .int .u32 0, .int .u32 0, .int .u32 0, .int .u32 0, .int .u32 0] := ⟨⟨_, _, (by kernel_rfl : Try.prog.info? 201 = some Try.t201), rfl, rfl, rfl, rfl⟩⟩
end Go.Proofs.Ytpmapedhigjalaa
end
