/- Qb: Ty. -/
import Derived.Test.YtpmapedhigjalaaRows
import Derived.Test.YtpmapedhigjalaaRwa
section
/- What is known of this seat's types: printed by tyfacts.py. -/
namespace Go.Proofs.Ytpmapedhigjalaa
open Go.Sx
theorem mixed : Try.prog.follows .mixedOrders = true := by kernel_rfl
theorem ty3 : Ty Try.prog 3 1 8 [.int .i64 0] := ⟨⟨_, _, (by kernel_rfl : Try.prog.info? 3 = some Try.t3), rfl, rfl, rfl, rfl⟩⟩
theorem ty5 : Ty Try.prog 5 1 1 [.int .u8 0] := ⟨⟨_, _, (by kernel_rfl : Try.prog.info? 5 = some Try.t5), rfl, rfl, rfl, rfl⟩⟩
theorem ty73 : Ty Try.prog 73 1 24 [.slice none 0 0] := ⟨⟨_, _, (by kernel_rfl : Try.prog.info? 73 = some Try.t73), rfl, rfl, rfl, rfl⟩⟩
theorem ty80 : Ty Try.prog 80 32 32 [.int .u8 0, .int .u8 0, .int .u8 0, .int .u8 0, .int .u8 0, .int .u8 0, .int .u8 0, .int .u8 0, .int .u8 0, .int .u8 0, .int .u8 0, .int .u8 0, .int .u8 0, .int .u8 0, .int .u8 0, .int .u8 0, .int .u8 0, .int .u8 0, .int .u8 0, .int .u8 0, .int .u8 0, .int .u8 0, .int .u8 0, .int .u8 0, .int .u8 0, .int .u8 0, .int .u8 0, .int .u8 0, .int .u8 0, .int .u8 0, .int .u8 0, .int .u8 0] := ⟨⟨_, _, (by kernel_rfl : Try.prog.info? 80 = some Try.t80), rfl, rfl, rfl, rfl⟩⟩
theorem ty82 : Ty Try.prog 82 35 64 [.int .u64 0, .string ⟨#[]⟩, .int .i64 0, .int .u8 0, .int .u8 0, .int .u8 0, .int .u8 0, .int .u8 0, .int .u8 0, .int .u8 0, .int .u8 0, .int .u8 0, .int .u8 0, .int .u8 0, .int .u8 0, .int .u8 0, .int .u8 0, .int .u8 0, .int .u8 0, .int .u8 0, .int .u8 0, .int .u8 0, .int .u8 0, .int .u8 0, .int .u8 0, .int .u8 0, .int .u8 0, .int .u8 0, .int .u8 0, .int .u8 0, .int .u8 0, .int .u8 0, .int .u8 0, .int .u8 0, .int .u8 0] := ⟨⟨_, _, (by kernel_rfl : Try.prog.info? 82 = some Try.t82), rfl, rfl, rfl, rfl⟩⟩
theorem fa82_0 : FieldAt Try.prog 82 0 0 := FieldAt.mk Try.underlying82 rfl rfl Try.sizeOf72 (by decide)
theorem fa82_1 : FieldAt Try.prog 82 1 1 := FieldAt.mk Try.underlying82 rfl rfl Try.sizeOf9 (by decide)
theorem fa82_2 : FieldAt Try.prog 82 2 2 := FieldAt.mk Try.underlying82 rfl rfl Try.sizeOf3 (by decide)
theorem fa82_3 : FieldAt Try.prog 82 3 3 := FieldAt.mk Try.underlying82 rfl rfl Try.sizeOf80 (by decide)
theorem fo82_3 : FieldOf Try.prog 82 3 3 32 true := ⟨_, _, Try.underlying82, rfl, rfl, Try.isAgg80, Try.sizeOf80⟩
theorem pl82 : PlacesOf Try.prog 82 [(0, 1), (1, 1), (2, 1), (3, 32)] := ⟨_, Try.underlying82, fun _ => by kernel_rfl⟩
theorem ty86 : Ty Try.prog 86 2 16 [.int .i64 0, .int .u64 0] := ⟨⟨_, _, (by kernel_rfl : Try.prog.info? 86 = some Try.t86), rfl, rfl, rfl, rfl⟩⟩
theorem fa86_0 : FieldAt Try.prog 86 0 0 := FieldAt.mk Try.underlying86 rfl rfl Try.sizeOf3 (by decide)
theorem fa86_1 : FieldAt Try.prog 86 1 1 := FieldAt.mk Try.underlying86 rfl rfl Try.sizeOf72 (by decide)
theorem pl86 : PlacesOf Try.prog 86 [(0, 1), (1, 1)] := ⟨_, Try.underlying86, fun _ => by kernel_rfl⟩
theorem ty104 : Ty Try.prog 104 41 128 [.bool false, .int .u64 0, .string ⟨#[]⟩, .int .i64 0, .int .u8 0, .int .u8 0, .int .u8 0, .int .u8 0, .int .u8 0, .int .u8 0, .int .u8 0, .int .u8 0, .int .u8 0, .int .u8 0, .int .u8 0, .int .u8 0, .int .u8 0, .int .u8 0, .int .u8 0, .int .u8 0, .int .u8 0, .int .u8 0, .int .u8 0, .int .u8 0, .int .u8 0, .int .u8 0, .int .u8 0, .int .u8 0, .int .u8 0, .int .u8 0, .int .u8 0, .int .u8 0, .int .u8 0, .int .u8 0, .int .u8 0, .int .u8 0, .slice none 0 0, .int .i64 0, .int .u64 0, .int .i64 0, .bool false] := ⟨⟨_, _, (by kernel_rfl : Try.prog.info? 104 = some Try.t104), rfl, rfl, rfl, rfl⟩⟩
theorem fa104_0 : FieldAt Try.prog 104 0 0 := FieldAt.mk Try.underlying104 rfl rfl Try.sizeOf4 (by decide)
theorem fa104_1 : FieldAt Try.prog 104 1 1 := FieldAt.mk Try.underlying104 rfl rfl Try.sizeOf82 (by decide)
theorem fa104_2 : FieldAt Try.prog 104 2 36 := FieldAt.mk Try.underlying104 rfl rfl Try.sizeOf73 (by decide)
theorem fa104_3 : FieldAt Try.prog 104 3 37 := FieldAt.mk Try.underlying104 rfl rfl Try.sizeOf86 (by decide)
theorem fa104_4 : FieldAt Try.prog 104 4 39 := FieldAt.mk Try.underlying104 rfl rfl Try.sizeOf3 (by decide)
theorem fa104_5 : FieldAt Try.prog 104 5 40 := FieldAt.mk Try.underlying104 rfl rfl Try.sizeOf4 (by decide)
theorem pl104 : PlacesOf Try.prog 104 [(0, 1), (1, 35), (36, 1), (37, 2), (39, 1), (40, 1)] := ⟨_, Try.underlying104, fun _ => by kernel_rfl⟩
theorem ty127 : Ty Try.prog 127 64 64 [.bool false, .bool false, .bool false, .bool false, .bool false, .bool false, .bool false, .bool false, .bool false, .bool false, .bool false, .bool false, .bool false, .bool false, .bool false, .bool false, .bool false, .bool false, .bool false, .bool false, .bool false, .bool false, .bool false, .bool false, .bool false, .bool false, .bool false, .bool false, .bool false, .bool false, .bool false, .bool false, .bool false, .bool false, .bool false, .bool false, .bool false, .bool false, .bool false, .bool false, .bool false, .bool false, .bool false, .bool false, .bool false, .bool false, .bool false, .bool false, .bool false, .bool false, .bool false, .bool false, .bool false, .bool false, .bool false, .bool false, .bool false, .bool false, .bool false, .bool false, .bool false, .bool false, .bool false, .bool false] := ⟨⟨_, _, (by kernel_rfl : Try.prog.info? 127 = some Try.t127), rfl, rfl, rfl, rfl⟩⟩
theorem ty154 : Ty Try.prog 154 1 8 [.map none] := ⟨⟨_, _, (by kernel_rfl : Try.prog.info? 154 = some Try.t154), rfl, rfl, rfl, rfl⟩⟩
theorem fa154_0 : FieldAt Try.prog 154 0 0 := FieldAt.mk Try.underlying154 rfl rfl Try.sizeOf152 (by decide)
theorem pl154 : PlacesOf Try.prog 154 [(0, 1)] := ⟨_, Try.underlying154, fun _ => by kernel_rfl⟩
theorem zv155 : ∀ w, (zeroValue 155).run Try.prog w = .ok (.pointer none) w := fun w => Ty.zvOf (by kernel_rfl : Try.prog.info? 155 = some Try.t155) rfl w
theorem ty158 : Ty Try.prog 158 36 72 [.int .u64 0, .string ⟨#[]⟩, .int .i64 0, .int .u8 0, .int .u8 0, .int .u8 0, .int .u8 0, .int .u8 0, .int .u8 0, .int .u8 0, .int .u8 0, .int .u8 0, .int .u8 0, .int .u8 0, .int .u8 0, .int .u8 0, .int .u8 0, .int .u8 0, .int .u8 0, .int .u8 0, .int .u8 0, .int .u8 0, .int .u8 0, .int .u8 0, .int .u8 0, .int .u8 0, .int .u8 0, .int .u8 0, .int .u8 0, .int .u8 0, .int .u8 0, .int .u8 0, .int .u8 0, .int .u8 0, .int .u8 0, .map none] := ⟨⟨_, _, (by kernel_rfl : Try.prog.info? 158 = some Try.t158), rfl, rfl, rfl, rfl⟩⟩
theorem fa158_0 : FieldAt Try.prog 158 0 0 := FieldAt.mk Try.underlying158 rfl rfl Try.sizeOf82 (by decide)
theorem fa158_1 : FieldAt Try.prog 158 1 35 := FieldAt.mk Try.underlying158 rfl rfl Try.sizeOf156 (by decide)
theorem pl158 : PlacesOf Try.prog 158 [(0, 35), (35, 1)] := ⟨_, Try.underlying158, fun _ => by kernel_rfl⟩
theorem zv166 : ∀ w, (zeroValue 166).run Try.prog w = .ok (.agg #[.slice none 0 0, .int .u32 0]) w := fun w => Ty.zvOf (by kernel_rfl : Try.prog.info? 166 = some Try.t166) rfl w
theorem ty166 : Ty Try.prog 166 2 32 [.slice none 0 0, .int .u32 0] := ⟨⟨_, _, (by kernel_rfl : Try.prog.info? 166 = some Try.t166), rfl, rfl, rfl, rfl⟩⟩
theorem fa166_0 : FieldAt Try.prog 166 0 0 := FieldAt.mk Try.underlying166 rfl rfl Try.sizeOf73 (by decide)
theorem fo166_0 : FieldOf Try.prog 166 0 0 1 false := ⟨_, _, Try.underlying166, rfl, rfl, Try.isAgg73, Try.sizeOf73⟩
theorem fa166_1 : FieldAt Try.prog 166 1 1 := FieldAt.mk Try.underlying166 rfl rfl Try.sizeOf35 (by decide)
theorem pl166 : PlacesOf Try.prog 166 [(0, 1), (1, 1)] := ⟨_, Try.underlying166, fun _ => by kernel_rfl⟩
theorem ty172 : Ty Try.prog 172 8 32 [.int .u32 0, .int .u32 0, .int .u32 0, .int .u32 0, .int .u32 0, .int .u32 0, .int .u32 0, .int .u32 0] := ⟨⟨_, _, (by kernel_rfl : Try.prog.info? 172 = some Try.t172), rfl, rfl, rfl, rfl⟩⟩
theorem ty175 : Ty Try.prog 175 11 72 [.int .u32 0, .int .u32 0, .int .u32 0, .int .u32 0, .int .u32 0, .int .u32 0, .int .u32 0, .int .u32 0, .slice none 0 0, .int .i64 0, .bool false] := ⟨⟨_, _, (by kernel_rfl : Try.prog.info? 175 = some Try.t175), rfl, rfl, rfl, rfl⟩⟩
theorem fa175_0 : FieldAt Try.prog 175 0 0 := FieldAt.mk Try.underlying175 rfl rfl Try.sizeOf172 (by decide)
theorem fa175_1 : FieldAt Try.prog 175 1 8 := FieldAt.mk Try.underlying175 rfl rfl Try.sizeOf73 (by decide)
theorem fa175_2 : FieldAt Try.prog 175 2 9 := FieldAt.mk Try.underlying175 rfl rfl Try.sizeOf3 (by decide)
theorem fa175_3 : FieldAt Try.prog 175 3 10 := FieldAt.mk Try.underlying175 rfl rfl Try.sizeOf4 (by decide)
theorem pl175 : PlacesOf Try.prog 175 [(0, 8), (8, 1), (9, 1), (10, 1)] := ⟨_, Try.underlying175, fun _ => by kernel_rfl⟩
theorem ty195 : Ty Try.prog 195 260 1048 ([.int .u32 0, .int .i32 0] ++ List.replicate 257 (.int .u32 0) ++ [.int .i64 0]) := ⟨⟨_, _, (by kernel_rfl : Try.prog.info? 195 = some Try.t195), rfl, rfl, rfl, by kernel_rfl⟩⟩
theorem fa195_0 : FieldAt Try.prog 195 0 0 := FieldAt.mk Try.underlying195 rfl rfl Try.sizeOf189 (by decide)
theorem fa195_1 : FieldAt Try.prog 195 1 3 := FieldAt.mk Try.underlying195 rfl rfl Try.sizeOf190 (by decide)
theorem fa195_2 : FieldAt Try.prog 195 2 259 := FieldAt.mk Try.underlying195 rfl rfl Try.sizeOf193 (by decide)
theorem pl195 : PlacesOf Try.prog 195 [(0, 3), (3, 256), (259, 1)] := ⟨_, Try.underlying195, fun _ => by kernel_rfl⟩
theorem ty199 : Ty Try.prog 199 64 256 [.int .u32 0, .int .u32 0, .int .u32 0, .int .u32 0, .int .u32 0, .int .u32 0, .int .u32 0, .int .u32 0, .int .u32 0, .int .u32 0, .int .u32 0, .int .u32 0, .int .u32 0, .int .u32 0, .int .u32 0, .int .u32 0, .int .u32 0, .int .u32 0, .int .u32 0, .int .u32 0, .int .u32 0, .int .u32 0, .int .u32 0, .int .u32 0, .int .u32 0, .int .u32 0, .int .u32 0, .int .u32 0, .int .u32 0, .int .u32 0, .int .u32 0, .int .u32 0, .int .u32 0, .int .u32 0, .int .u32 0, .int .u32 0, .int .u32 0, .int .u32 0, .int .u32 0, .int .u32 0, .int .u32 0, .int .u32 0, .int .u32 0, .int .u32 0, .int .u32 0, .int .u32 0, .int .u32 0, .int .u32 0, .int .u32 0, .int .u32 0, .int .u32 0, .int .u32 0, .int .u32 0, .int .u32 0, .int .u32 0, .int .u32 0, .int .u32 0, .int .u32 0, .int .u32 0, .int .u32 0, .int .u32 0, .int .u32 0, .int .u32 0, .int .u32 0] := ⟨⟨_, _, (by kernel_rfl : Try.prog.info? 199 = some Try.t199), rfl, rfl, rfl, rfl⟩⟩
theorem ty201 : Ty Try.prog 201 16 64 [.int .u32 0, .int .u32 0, .int .u32 0, .int .u32 0, .int .u32 0, .int .u32 0, .int .u32 0, .int .u32 0, .int .u32 0, .int .u32 0, .int .u32 0, .int .u32 0, .int .u32 0, .int .u32 0, .int .u32 0, .int .u32 0] := ⟨⟨_, _, (by kernel_rfl : Try.prog.info? 201 = some Try.t201), rfl, rfl, rfl, rfl⟩⟩
end Go.Proofs.Ytpmapedhigjalaa
end
