/- Qb: Ty. -/
import Derived.Test.YtpmapedhigjalaaRows
import Derived.Test.YtpmapedhigjalaaRca
section
/- What is known of this seat's types: printed by tyfacts.py. -/
namespace Go.Proofs.Ytpmapedhigjalaa
open Go.Sx
theorem mixed : Try.prog.follows .mixedOrders = true := by kernel_rfl
theorem ty29 : Ty Try.prog 29 3 40 [.int .i64 0, .int .i64 0, .slice none 0 0] := ⟨⟨_, _, (by kernel_rfl : Try.prog.info? 29 = some Try.t29), rfl, rfl, rfl, rfl⟩⟩
theorem fa29_0 : FieldAt Try.prog 29 0 0 := FieldAt.mk Try.underlying29 rfl rfl Try.sizeOf3 (by decide)
theorem fa29_1 : FieldAt Try.prog 29 1 1 := FieldAt.mk Try.underlying29 rfl rfl Try.sizeOf3 (by decide)
theorem fa29_2 : FieldAt Try.prog 29 2 2 := FieldAt.mk Try.underlying29 rfl rfl Try.sizeOf27 (by decide)
theorem pl29 : PlacesOf Try.prog 29 [(0, 1), (1, 1), (2, 1)] := ⟨_, Try.underlying29, fun _ => by kernel_rfl⟩
theorem fa37_0 : FieldAt Try.prog 37 0 0 := FieldAt.mk Try.underlying37 rfl rfl Try.sizeOf5 (by decide)
theorem fa37_1 : FieldAt Try.prog 37 1 1 := FieldAt.mk Try.underlying37 rfl rfl Try.sizeOf35 (by decide)
theorem fa37_2 : FieldAt Try.prog 37 2 2 := FieldAt.mk Try.underlying37 rfl rfl Try.sizeOf35 (by decide)
theorem ty39 : Ty Try.prog 39 4 16 [.int .i32 0, .int .u8 0, .int .u32 0, .int .u32 0] := ⟨⟨_, _, (by kernel_rfl : Try.prog.info? 39 = some Try.t39), rfl, rfl, rfl, rfl⟩⟩
theorem fa39_0 : FieldAt Try.prog 39 0 0 := FieldAt.mk Try.underlying39 rfl rfl Try.sizeOf21 (by decide)
theorem fa39_1 : FieldAt Try.prog 39 1 1 := FieldAt.mk Try.underlying39 rfl rfl Try.sizeOf37 (by decide)
theorem pl39 : PlacesOf Try.prog 39 [(0, 1), (1, 3)] := ⟨_, Try.underlying39, fun _ => by kernel_rfl⟩
theorem fa41_0 : FieldAt Try.prog 41 0 0 := FieldAt.mk Try.underlying41 rfl rfl Try.sizeOf3 (by decide)
theorem fa41_1 : FieldAt Try.prog 41 1 1 := FieldAt.mk Try.underlying41 rfl rfl Try.sizeOf3 (by decide)
theorem fa41_2 : FieldAt Try.prog 41 2 2 := FieldAt.mk Try.underlying41 rfl rfl Try.sizeOf3 (by decide)
theorem fa41_3 : FieldAt Try.prog 41 3 3 := FieldAt.mk Try.underlying41 rfl rfl Try.sizeOf3 (by decide)
theorem fa41_4 : FieldAt Try.prog 41 4 4 := FieldAt.mk Try.underlying41 rfl rfl Try.sizeOf39 (by decide)
theorem ty47 : Ty Try.prog 47 10 16 [.bool false, .bool false, .bool false, .bool false, .bool false, .bool false, .bool false, .bool false, .int .u32 0, .int .u32 0] := ⟨⟨_, _, (by kernel_rfl : Try.prog.info? 47 = some Try.t47), rfl, rfl, rfl, rfl⟩⟩
theorem fa47_0 : FieldAt Try.prog 47 0 0 := FieldAt.mk Try.underlying47 rfl rfl Try.sizeOf45 (by decide)
theorem pl47 : PlacesOf Try.prog 47 [(0, 8), (8, 1), (9, 1)] := ⟨_, Try.underlying47, fun _ => by kernel_rfl⟩
theorem ty49 : Ty Try.prog 49 11 20 [.int .i32 0, .bool false, .bool false, .bool false, .bool false, .bool false, .bool false, .bool false, .bool false, .int .u32 0, .int .u32 0] := ⟨⟨_, _, (by kernel_rfl : Try.prog.info? 49 = some Try.t49), rfl, rfl, rfl, rfl⟩⟩
theorem pl49 : PlacesOf Try.prog 49 [(0, 1), (1, 10)] := ⟨_, Try.underlying49, fun _ => by kernel_rfl⟩
theorem ty61 : Ty Try.prog 61 2 32 [.int .i64 0, .slice none 0 0] := ⟨⟨_, _, (by kernel_rfl : Try.prog.info? 61 = some Try.t61), rfl, rfl, rfl, rfl⟩⟩
theorem fa61_0 : FieldAt Try.prog 61 0 0 := FieldAt.mk Try.underlying61 rfl rfl Try.sizeOf3 (by decide)
theorem fa61_1 : FieldAt Try.prog 61 1 1 := FieldAt.mk Try.underlying61 rfl rfl Try.sizeOf59 (by decide)
theorem pl61 : PlacesOf Try.prog 61 [(0, 1), (1, 1)] := ⟨_, Try.underlying61, fun _ => by kernel_rfl⟩
theorem ty62 : Ty Try.prog 62 1 24 [.slice none 0 0] := ⟨⟨_, _, (by kernel_rfl : Try.prog.info? 62 = some Try.t62), rfl, rfl, rfl, rfl⟩⟩
end Go.Proofs.Ytpmapedhigjalaa
end
