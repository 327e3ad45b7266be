/- Qb: Ty. -/
import Derived.Test.YtagcpamchgpgiaaRows
import Derived.Test.YtagcpamchgpgiaaRla
section
/- What is known of this seat's types: printed by tyfacts.py. -/
namespace Go.Proofs.Ytagcpamchgpgiaa
open Go.Sx
theorem mixed : Try.prog.follows .mixedOrders = true := by kernel_rfl
theorem ty3 : Ty Try.prog 3 1 8 [.int .i64 0] := ⟨⟨_, _, (by kernel_rfl : Try.prog.info? 3 = some Try.t3), rfl, rfl, rfl, rfl⟩⟩
theorem ty5 : Ty Try.prog 5 1 1 [.int .u8 0] := ⟨⟨_, _, (by kernel_rfl : Try.prog.info? 5 = some Try.t5), rfl, rfl, rfl, rfl⟩⟩
theorem ty22 : Ty Try.prog 22 1 8 [.int .u64 0] := ⟨⟨_, _, (by kernel_rfl : Try.prog.info? 22 = some Try.t22), rfl, rfl, rfl, rfl⟩⟩
theorem ty35 : Ty Try.prog 35 4 48 [.int .u64 0, .int .i64 0, .int .i64 0, .slice none 0 0] := ⟨⟨_, _, (by kernel_rfl : Try.prog.info? 35 = some Try.t35), rfl, rfl, rfl, rfl⟩⟩
theorem fa35_0 : FieldAt Try.prog 35 0 0 := FieldAt.mk Try.underlying35 rfl rfl Try.sizeOf22 (by decide)
theorem fa35_1 : FieldAt Try.prog 35 1 1 := FieldAt.mk Try.underlying35 rfl rfl Try.sizeOf3 (by decide)
theorem fa35_2 : FieldAt Try.prog 35 2 2 := FieldAt.mk Try.underlying35 rfl rfl Try.sizeOf3 (by decide)
theorem fa35_3 : FieldAt Try.prog 35 3 3 := FieldAt.mk Try.underlying35 rfl rfl Try.sizeOf23 (by decide)
theorem pl35 : PlacesOf Try.prog 35 [(0, 1), (1, 1), (2, 1), (3, 1)] := ⟨_, Try.underlying35, fun _ => by kernel_rfl⟩
theorem ty44 : Ty Try.prog 44 4 48 [.int .u64 0, .int .i64 0, .int .i64 0, .slice none 0 0] := ⟨⟨_, _, (by kernel_rfl : Try.prog.info? 44 = some Try.t44), rfl, rfl, rfl, rfl⟩⟩
theorem fa44_0 : FieldAt Try.prog 44 0 0 := FieldAt.mk Try.underlying44 rfl rfl Try.sizeOf22 (by decide)
theorem fa44_1 : FieldAt Try.prog 44 1 1 := FieldAt.mk Try.underlying44 rfl rfl Try.sizeOf3 (by decide)
theorem fa44_2 : FieldAt Try.prog 44 2 2 := FieldAt.mk Try.underlying44 rfl rfl Try.sizeOf3 (by decide)
theorem fa44_3 : FieldAt Try.prog 44 3 3 := FieldAt.mk Try.underlying44 rfl rfl Try.sizeOf23 (by decide)
theorem pl44 : PlacesOf Try.prog 44 [(0, 1), (1, 1), (2, 1), (3, 1)] := ⟨_, Try.underlying44, fun _ => by kernel_rfl⟩
theorem ty48 : Ty Try.prog 48 2 32 [.int .u64 0, .slice none 0 0] := ⟨⟨_, _, (by kernel_rfl : Try.prog.info? 48 = some Try.t48), rfl, rfl, rfl, rfl⟩⟩
theorem fa48_0 : FieldAt Try.prog 48 0 0 := FieldAt.mk Try.underlying48 rfl rfl Try.sizeOf22 (by decide)
theorem fa48_1 : FieldAt Try.prog 48 1 1 := FieldAt.mk Try.underlying48 rfl rfl Try.sizeOf46 (by decide)
theorem pl48 : PlacesOf Try.prog 48 [(0, 1), (1, 1)] := ⟨_, Try.underlying48, fun _ => by kernel_rfl⟩
theorem ty52 : Ty Try.prog 52 2 16 [.int .u64 0, .map none] := ⟨⟨_, _, (by kernel_rfl : Try.prog.info? 52 = some Try.t52), rfl, rfl, rfl, rfl⟩⟩
theorem fa52_0 : FieldAt Try.prog 52 0 0 := FieldAt.mk Try.underlying52 rfl rfl Try.sizeOf22 (by decide)
theorem fa52_1 : FieldAt Try.prog 52 1 1 := FieldAt.mk Try.underlying52 rfl rfl Try.sizeOf50 (by decide)
theorem pl52 : PlacesOf Try.prog 52 [(0, 1), (1, 1)] := ⟨_, Try.underlying52, fun _ => by kernel_rfl⟩
theorem zv86 : ∀ w, (zeroValue 86).run Try.prog w = .ok (.pointer none) w := fun w => Ty.zvOf (by kernel_rfl : Try.prog.info? 86 = some Try.t86) rfl w
theorem ty89 : Ty Try.prog 89 322 3152 ([.int .i64 0] ++ List.replicate 64 (.bool false) ++ (List.replicate 64 [.int .u64 0, .int .i64 0, .int .i64 0, .slice none 0 0]).flatten ++ [.int .i64 0]) := ⟨⟨_, _, (by kernel_rfl : Try.prog.info? 89 = some Try.t89), rfl, rfl, rfl, by kernel_rfl⟩⟩
theorem fa89_0 : FieldAt Try.prog 89 0 0 := FieldAt.mk Try.underlying89 rfl rfl Try.sizeOf3 (by decide)
theorem fa89_1 : FieldAt Try.prog 89 1 1 := FieldAt.mk Try.underlying89 rfl rfl Try.sizeOf31 (by decide)
theorem fa89_2 : FieldAt Try.prog 89 2 65 := FieldAt.mk Try.underlying89 rfl rfl Try.sizeOf87 (by decide)
theorem fa89_3 : FieldAt Try.prog 89 3 321 := FieldAt.mk Try.underlying89 rfl rfl Try.sizeOf3 (by decide)
theorem pl89 : PlacesOf Try.prog 89 [(0, 1), (1, 64), (65, 256), (321, 1)] := ⟨_, Try.underlying89, fun _ => by kernel_rfl⟩
end Go.Proofs.Ytagcpamchgpgiaa
end
