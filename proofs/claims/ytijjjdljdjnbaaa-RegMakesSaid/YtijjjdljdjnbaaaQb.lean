/- Qb: Ty. -/
import Derived.Test.YtijjjdljdjnbaaaRows
import Derived.Test.YtijjjdljdjnbaaaQa
section
/- What is known of this seat's types: printed by tyfacts.py. -/
namespace Go.Proofs.Ytijjjdljdjnbaaa
open Go.Sx
theorem mixed : Try.prog.follows .mixedOrders = true := by kernel_rfl
theorem ty2 : Ty Try.prog 2 1 8 [.int .i64 0] := ⟨⟨_, _, (by kernel_rfl : Try.prog.info? 2 = some Try.t2), rfl, rfl, rfl, rfl⟩⟩
theorem ty3 : Ty Try.prog 3 1 8 [.int .i64 0] := ⟨⟨_, _, (by kernel_rfl : Try.prog.info? 3 = some Try.t3), rfl, rfl, rfl, rfl⟩⟩
theorem ty4 : Ty Try.prog 4 1 1 [.bool false] := ⟨⟨_, _, (by kernel_rfl : Try.prog.info? 4 = some Try.t4), rfl, rfl, rfl, rfl⟩⟩
theorem ty5 : Ty Try.prog 5 1 1 [.int .u8 0] := ⟨⟨_, _, (by kernel_rfl : Try.prog.info? 5 = some Try.t5), rfl, rfl, rfl, rfl⟩⟩
theorem ty6 : Ty Try.prog 6 1 1 [.int .u8 0] := ⟨⟨_, _, (by kernel_rfl : Try.prog.info? 6 = some Try.t6), rfl, rfl, rfl, rfl⟩⟩
theorem ty7 : Ty Try.prog 7 4 24 [.int .i64 0, .int .i64 0, .bool false, .int .u8 0] := ⟨⟨_, _, (by kernel_rfl : Try.prog.info? 7 = some Try.t7), rfl, rfl, rfl, rfl⟩⟩
theorem fa7_0 : FieldAt Try.prog 7 0 0 := FieldAt.mk Try.underlying7 rfl rfl Try.sizeOf2 (by decide)
theorem fo7_0 : FieldOf Try.prog 7 0 0 1 false := ⟨_, _, Try.underlying7, rfl, rfl, Try.isAgg2, Try.sizeOf2⟩
theorem fa7_1 : FieldAt Try.prog 7 1 1 := FieldAt.mk Try.underlying7 rfl rfl Try.sizeOf3 (by decide)
theorem fo7_1 : FieldOf Try.prog 7 1 1 1 false := ⟨_, _, Try.underlying7, rfl, rfl, Try.isAgg3, Try.sizeOf3⟩
theorem fa7_2 : FieldAt Try.prog 7 2 2 := FieldAt.mk Try.underlying7 rfl rfl Try.sizeOf4 (by decide)
theorem fo7_2 : FieldOf Try.prog 7 2 2 1 false := ⟨_, _, Try.underlying7, rfl, rfl, Try.isAgg4, Try.sizeOf4⟩
theorem fa7_3 : FieldAt Try.prog 7 3 3 := FieldAt.mk Try.underlying7 rfl rfl Try.sizeOf6 (by decide)
theorem fo7_3 : FieldOf Try.prog 7 3 3 1 false := ⟨_, _, Try.underlying7, rfl, rfl, Try.isAgg6, Try.sizeOf6⟩
theorem pl7 : PlacesOf Try.prog 7 [(0, 1), (1, 1), (2, 1), (3, 1)] := ⟨_, Try.underlying7, fun _ => by kernel_rfl⟩
theorem ty8 : Ty Try.prog 8 4 24 [.int .i64 0, .int .i64 0, .bool false, .int .u8 0] := ⟨⟨_, _, (by kernel_rfl : Try.prog.info? 8 = some Try.t8), rfl, rfl, rfl, rfl⟩⟩
theorem fa8_0 : FieldAt Try.prog 8 0 0 := FieldAt.mk Try.underlying8 rfl rfl Try.sizeOf2 (by decide)
theorem fo8_0 : FieldOf Try.prog 8 0 0 1 false := ⟨_, _, Try.underlying8, rfl, rfl, Try.isAgg2, Try.sizeOf2⟩
theorem fa8_1 : FieldAt Try.prog 8 1 1 := FieldAt.mk Try.underlying8 rfl rfl Try.sizeOf3 (by decide)
theorem fo8_1 : FieldOf Try.prog 8 1 1 1 false := ⟨_, _, Try.underlying8, rfl, rfl, Try.isAgg3, Try.sizeOf3⟩
theorem fa8_2 : FieldAt Try.prog 8 2 2 := FieldAt.mk Try.underlying8 rfl rfl Try.sizeOf4 (by decide)
theorem fo8_2 : FieldOf Try.prog 8 2 2 1 false := ⟨_, _, Try.underlying8, rfl, rfl, Try.isAgg4, Try.sizeOf4⟩
theorem fa8_3 : FieldAt Try.prog 8 3 3 := FieldAt.mk Try.underlying8 rfl rfl Try.sizeOf6 (by decide)
theorem fo8_3 : FieldOf Try.prog 8 3 3 1 false := ⟨_, _, Try.underlying8, rfl, rfl, Try.isAgg6, Try.sizeOf6⟩
theorem pl8 : PlacesOf Try.prog 8 [(0, 1), (1, 1), (2, 1), (3, 1)] := ⟨_, Try.underlying8, fun _ => by kernel_rfl⟩
theorem ty9 : Ty Try.prog 9 1 16 [.string ⟨#[]⟩] := ⟨⟨_, _, (by kernel_rfl : Try.prog.info? 9 = some Try.t9), rfl, rfl, rfl, rfl⟩⟩
theorem ty10 : Ty Try.prog 10 1 16 [.string ⟨#[]⟩] := ⟨⟨_, _, (by kernel_rfl : Try.prog.info? 10 = some Try.t10), rfl, rfl, rfl, rfl⟩⟩
theorem ty11 : Ty Try.prog 11 1 16 [.string ⟨#[]⟩] := ⟨⟨_, _, (by kernel_rfl : Try.prog.info? 11 = some Try.t11), rfl, rfl, rfl, rfl⟩⟩
theorem ty12 : Ty Try.prog 12 1 8 [.int .u64 0] := ⟨⟨_, _, (by kernel_rfl : Try.prog.info? 12 = some Try.t12), rfl, rfl, rfl, rfl⟩⟩
theorem ty13 : Ty Try.prog 13 2 24 [.string ⟨#[]⟩, .int .u64 0] := ⟨⟨_, _, (by kernel_rfl : Try.prog.info? 13 = some Try.t13), rfl, rfl, rfl, rfl⟩⟩
theorem fa13_0 : FieldAt Try.prog 13 0 0 := FieldAt.mk Try.underlying13 rfl rfl Try.sizeOf9 (by decide)
theorem fo13_0 : FieldOf Try.prog 13 0 0 1 false := ⟨_, _, Try.underlying13, rfl, rfl, Try.isAgg9, Try.sizeOf9⟩
theorem fa13_1 : FieldAt Try.prog 13 1 1 := FieldAt.mk Try.underlying13 rfl rfl Try.sizeOf12 (by decide)
theorem fo13_1 : FieldOf Try.prog 13 1 1 1 false := ⟨_, _, Try.underlying13, rfl, rfl, Try.isAgg12, Try.sizeOf12⟩
theorem pl13 : PlacesOf Try.prog 13 [(0, 1), (1, 1)] := ⟨_, Try.underlying13, fun _ => by kernel_rfl⟩
theorem ty14 : Ty Try.prog 14 2 24 [.string ⟨#[]⟩, .int .u64 0] := ⟨⟨_, _, (by kernel_rfl : Try.prog.info? 14 = some Try.t14), rfl, rfl, rfl, rfl⟩⟩
theorem fa14_0 : FieldAt Try.prog 14 0 0 := FieldAt.mk Try.underlying14 rfl rfl Try.sizeOf9 (by decide)
theorem fo14_0 : FieldOf Try.prog 14 0 0 1 false := ⟨_, _, Try.underlying14, rfl, rfl, Try.isAgg9, Try.sizeOf9⟩
theorem fa14_1 : FieldAt Try.prog 14 1 1 := FieldAt.mk Try.underlying14 rfl rfl Try.sizeOf12 (by decide)
theorem fo14_1 : FieldOf Try.prog 14 1 1 1 false := ⟨_, _, Try.underlying14, rfl, rfl, Try.isAgg12, Try.sizeOf12⟩
theorem pl14 : PlacesOf Try.prog 14 [(0, 1), (1, 1)] := ⟨_, Try.underlying14, fun _ => by kernel_rfl⟩
theorem ty15 : Ty Try.prog 15 1 8 [.pointer none] := ⟨⟨_, _, (by kernel_rfl : Try.prog.info? 15 = some Try.t15), rfl, rfl, rfl, rfl⟩⟩
theorem ty16 : Ty Try.prog 16 1 8 [.pointer none] := ⟨⟨_, _, (by kernel_rfl : Try.prog.info? 16 = some Try.t16), rfl, rfl, rfl, rfl⟩⟩
theorem ty17 : Ty Try.prog 17 1 8 [.pointer none] := ⟨⟨_, _, (by kernel_rfl : Try.prog.info? 17 = some Try.t17), rfl, rfl, rfl, rfl⟩⟩
theorem ty18 : Ty Try.prog 18 1 8 [.pointer none] := ⟨⟨_, _, (by kernel_rfl : Try.prog.info? 18 = some Try.t18), rfl, rfl, rfl, rfl⟩⟩
theorem fa18_0 : FieldAt Try.prog 18 0 0 := FieldAt.mk Try.underlying18 rfl rfl Try.sizeOf17 (by decide)
theorem fo18_0 : FieldOf Try.prog 18 0 0 1 false := ⟨_, _, Try.underlying18, rfl, rfl, Try.isAgg17, Try.sizeOf17⟩
theorem pl18 : PlacesOf Try.prog 18 [(0, 1)] := ⟨_, Try.underlying18, fun _ => by kernel_rfl⟩
theorem ty19 : Ty Try.prog 19 1 8 [.pointer none] := ⟨⟨_, _, (by kernel_rfl : Try.prog.info? 19 = some Try.t19), rfl, rfl, rfl, rfl⟩⟩
theorem fa19_0 : FieldAt Try.prog 19 0 0 := FieldAt.mk Try.underlying19 rfl rfl Try.sizeOf17 (by decide)
theorem fo19_0 : FieldOf Try.prog 19 0 0 1 false := ⟨_, _, Try.underlying19, rfl, rfl, Try.isAgg17, Try.sizeOf17⟩
theorem pl19 : PlacesOf Try.prog 19 [(0, 1)] := ⟨_, Try.underlying19, fun _ => by kernel_rfl⟩
theorem ty21 : Ty Try.prog 21 1 4 [.int .i32 0] := ⟨⟨_, _, (by kernel_rfl : Try.prog.info? 21 = some Try.t21), rfl, rfl, rfl, rfl⟩⟩
theorem ty22 : Ty Try.prog 22 1 24 [.slice none 0 0] := ⟨⟨_, _, (by kernel_rfl : Try.prog.info? 22 = some Try.t22), rfl, rfl, rfl, rfl⟩⟩
theorem ty23 : Ty Try.prog 23 6 64 [.int .i64 0, .int .i64 0, .slice none 0 0, .int .i64 0, .int .i64 0, .bool false] := ⟨⟨_, _, (by kernel_rfl : Try.prog.info? 23 = some Try.t23), rfl, rfl, rfl, rfl⟩⟩
theorem fa23_0 : FieldAt Try.prog 23 0 0 := FieldAt.mk Try.underlying23 rfl rfl Try.sizeOf3 (by decide)
theorem fo23_0 : FieldOf Try.prog 23 0 0 1 false := ⟨_, _, Try.underlying23, rfl, rfl, Try.isAgg3, Try.sizeOf3⟩
theorem fa23_1 : FieldAt Try.prog 23 1 1 := FieldAt.mk Try.underlying23 rfl rfl Try.sizeOf3 (by decide)
theorem fo23_1 : FieldOf Try.prog 23 1 1 1 false := ⟨_, _, Try.underlying23, rfl, rfl, Try.isAgg3, Try.sizeOf3⟩
theorem fa23_2 : FieldAt Try.prog 23 2 2 := FieldAt.mk Try.underlying23 rfl rfl Try.sizeOf22 (by decide)
theorem fo23_2 : FieldOf Try.prog 23 2 2 1 false := ⟨_, _, Try.underlying23, rfl, rfl, Try.isAgg22, Try.sizeOf22⟩
theorem fa23_3 : FieldAt Try.prog 23 3 3 := FieldAt.mk Try.underlying23 rfl rfl Try.sizeOf3 (by decide)
theorem fo23_3 : FieldOf Try.prog 23 3 3 1 false := ⟨_, _, Try.underlying23, rfl, rfl, Try.isAgg3, Try.sizeOf3⟩
theorem fa23_4 : FieldAt Try.prog 23 4 4 := FieldAt.mk Try.underlying23 rfl rfl Try.sizeOf3 (by decide)
theorem fo23_4 : FieldOf Try.prog 23 4 4 1 false := ⟨_, _, Try.underlying23, rfl, rfl, Try.isAgg3, Try.sizeOf3⟩
theorem fa23_5 : FieldAt Try.prog 23 5 5 := FieldAt.mk Try.underlying23 rfl rfl Try.sizeOf4 (by decide)
theorem fo23_5 : FieldOf Try.prog 23 5 5 1 false := ⟨_, _, Try.underlying23, rfl, rfl, Try.isAgg4, Try.sizeOf4⟩
theorem pl23 : PlacesOf Try.prog 23 [(0, 1), (1, 1), (2, 1), (3, 1), (4, 1), (5, 1)] := ⟨_, Try.underlying23, fun _ => by kernel_rfl⟩
theorem ty24 : Ty Try.prog 24 6 64 [.int .i64 0, .int .i64 0, .slice none 0 0, .int .i64 0, .int .i64 0, .bool false] := ⟨⟨_, _, (by kernel_rfl : Try.prog.info? 24 = some Try.t24), rfl, rfl, rfl, rfl⟩⟩
theorem fa24_0 : FieldAt Try.prog 24 0 0 := FieldAt.mk Try.underlying24 rfl rfl Try.sizeOf3 (by decide)
theorem fo24_0 : FieldOf Try.prog 24 0 0 1 false := ⟨_, _, Try.underlying24, rfl, rfl, Try.isAgg3, Try.sizeOf3⟩
theorem fa24_1 : FieldAt Try.prog 24 1 1 := FieldAt.mk Try.underlying24 rfl rfl Try.sizeOf3 (by decide)
theorem fo24_1 : FieldOf Try.prog 24 1 1 1 false := ⟨_, _, Try.underlying24, rfl, rfl, Try.isAgg3, Try.sizeOf3⟩
theorem fa24_2 : FieldAt Try.prog 24 2 2 := FieldAt.mk Try.underlying24 rfl rfl Try.sizeOf22 (by decide)
theorem fo24_2 : FieldOf Try.prog 24 2 2 1 false := ⟨_, _, Try.underlying24, rfl, rfl, Try.isAgg22, Try.sizeOf22⟩
theorem fa24_3 : FieldAt Try.prog 24 3 3 := FieldAt.mk Try.underlying24 rfl rfl Try.sizeOf3 (by decide)
theorem fo24_3 : FieldOf Try.prog 24 3 3 1 false := ⟨_, _, Try.underlying24, rfl, rfl, Try.isAgg3, Try.sizeOf3⟩
theorem fa24_4 : FieldAt Try.prog 24 4 4 := FieldAt.mk Try.underlying24 rfl rfl Try.sizeOf3 (by decide)
theorem fo24_4 : FieldOf Try.prog 24 4 4 1 false := ⟨_, _, Try.underlying24, rfl, rfl, Try.isAgg3, Try.sizeOf3⟩
theorem fa24_5 : FieldAt Try.prog 24 5 5 := FieldAt.mk Try.underlying24 rfl rfl Try.sizeOf4 (by decide)
theorem fo24_5 : FieldOf Try.prog 24 5 5 1 false := ⟨_, _, Try.underlying24, rfl, rfl, Try.isAgg4, Try.sizeOf4⟩
theorem pl24 : PlacesOf Try.prog 24 [(0, 1), (1, 1), (2, 1), (3, 1), (4, 1), (5, 1)] := ⟨_, Try.underlying24, fun _ => by kernel_rfl⟩
theorem ty26 : Ty Try.prog 26 1 24 [.slice none 0 0] := ⟨⟨_, _, (by kernel_rfl : Try.prog.info? 26 = some Try.t26), rfl, rfl, rfl, rfl⟩⟩
theorem ty27 : Ty Try.prog 27 3 40 [.int .i64 0, .int .i64 0, .slice none 0 0] := ⟨⟨_, _, (by kernel_rfl : Try.prog.info? 27 = some Try.t27), rfl, rfl, rfl, rfl⟩⟩
theorem fa27_0 : FieldAt Try.prog 27 0 0 := FieldAt.mk Try.underlying27 rfl rfl Try.sizeOf3 (by decide)
theorem fo27_0 : FieldOf Try.prog 27 0 0 1 false := ⟨_, _, Try.underlying27, rfl, rfl, Try.isAgg3, Try.sizeOf3⟩
theorem fa27_1 : FieldAt Try.prog 27 1 1 := FieldAt.mk Try.underlying27 rfl rfl Try.sizeOf3 (by decide)
theorem fo27_1 : FieldOf Try.prog 27 1 1 1 false := ⟨_, _, Try.underlying27, rfl, rfl, Try.isAgg3, Try.sizeOf3⟩
theorem fa27_2 : FieldAt Try.prog 27 2 2 := FieldAt.mk Try.underlying27 rfl rfl Try.sizeOf26 (by decide)
theorem fo27_2 : FieldOf Try.prog 27 2 2 1 false := ⟨_, _, Try.underlying27, rfl, rfl, Try.isAgg26, Try.sizeOf26⟩
theorem pl27 : PlacesOf Try.prog 27 [(0, 1), (1, 1), (2, 1)] := ⟨_, Try.underlying27, fun _ => by kernel_rfl⟩
theorem ty28 : Ty Try.prog 28 3 40 [.int .i64 0, .int .i64 0, .slice none 0 0] := ⟨⟨_, _, (by kernel_rfl : Try.prog.info? 28 = some Try.t28), rfl, rfl, rfl, rfl⟩⟩
theorem fa28_0 : FieldAt Try.prog 28 0 0 := FieldAt.mk Try.underlying28 rfl rfl Try.sizeOf3 (by decide)
theorem fo28_0 : FieldOf Try.prog 28 0 0 1 false := ⟨_, _, Try.underlying28, rfl, rfl, Try.isAgg3, Try.sizeOf3⟩
theorem fa28_1 : FieldAt Try.prog 28 1 1 := FieldAt.mk Try.underlying28 rfl rfl Try.sizeOf3 (by decide)
theorem fo28_1 : FieldOf Try.prog 28 1 1 1 false := ⟨_, _, Try.underlying28, rfl, rfl, Try.isAgg3, Try.sizeOf3⟩
theorem fa28_2 : FieldAt Try.prog 28 2 2 := FieldAt.mk Try.underlying28 rfl rfl Try.sizeOf26 (by decide)
theorem fo28_2 : FieldOf Try.prog 28 2 2 1 false := ⟨_, _, Try.underlying28, rfl, rfl, Try.isAgg26, Try.sizeOf26⟩
theorem pl28 : PlacesOf Try.prog 28 [(0, 1), (1, 1), (2, 1)] := ⟨_, Try.underlying28, fun _ => by kernel_rfl⟩
theorem ty29 : Ty Try.prog 29 6 64 [.int .i64 0, .int .i64 0, .slice none 0 0, .int .i64 0, .int .i64 0, .bool false] := ⟨⟨_, _, (by kernel_rfl : Try.prog.info? 29 = some Try.t29), rfl, rfl, rfl, rfl⟩⟩
theorem fa29_0 : FieldAt Try.prog 29 0 0 := FieldAt.mk Try.underlying29 rfl rfl Try.sizeOf28 (by decide)
theorem fo29_0 : FieldOf Try.prog 29 0 0 3 true := ⟨_, _, Try.underlying29, rfl, rfl, Try.isAgg28, Try.sizeOf28⟩
theorem fa29_1 : FieldAt Try.prog 29 1 3 := FieldAt.mk Try.underlying29 rfl rfl Try.sizeOf3 (by decide)
theorem fo29_1 : FieldOf Try.prog 29 1 3 1 false := ⟨_, _, Try.underlying29, rfl, rfl, Try.isAgg3, Try.sizeOf3⟩
theorem fa29_2 : FieldAt Try.prog 29 2 4 := FieldAt.mk Try.underlying29 rfl rfl Try.sizeOf3 (by decide)
theorem fo29_2 : FieldOf Try.prog 29 2 4 1 false := ⟨_, _, Try.underlying29, rfl, rfl, Try.isAgg3, Try.sizeOf3⟩
theorem fa29_3 : FieldAt Try.prog 29 3 5 := FieldAt.mk Try.underlying29 rfl rfl Try.sizeOf4 (by decide)
theorem fo29_3 : FieldOf Try.prog 29 3 5 1 false := ⟨_, _, Try.underlying29, rfl, rfl, Try.isAgg4, Try.sizeOf4⟩
theorem pl29 : PlacesOf Try.prog 29 [(0, 3), (3, 1), (4, 1), (5, 1)] := ⟨_, Try.underlying29, fun _ => by kernel_rfl⟩
theorem ty30 : Ty Try.prog 30 6 64 [.int .i64 0, .int .i64 0, .slice none 0 0, .int .i64 0, .int .i64 0, .bool false] := ⟨⟨_, _, (by kernel_rfl : Try.prog.info? 30 = some Try.t30), rfl, rfl, rfl, rfl⟩⟩
theorem fa30_0 : FieldAt Try.prog 30 0 0 := FieldAt.mk Try.underlying30 rfl rfl Try.sizeOf28 (by decide)
theorem fo30_0 : FieldOf Try.prog 30 0 0 3 true := ⟨_, _, Try.underlying30, rfl, rfl, Try.isAgg28, Try.sizeOf28⟩
theorem fa30_1 : FieldAt Try.prog 30 1 3 := FieldAt.mk Try.underlying30 rfl rfl Try.sizeOf3 (by decide)
theorem fo30_1 : FieldOf Try.prog 30 1 3 1 false := ⟨_, _, Try.underlying30, rfl, rfl, Try.isAgg3, Try.sizeOf3⟩
theorem fa30_2 : FieldAt Try.prog 30 2 4 := FieldAt.mk Try.underlying30 rfl rfl Try.sizeOf3 (by decide)
theorem fo30_2 : FieldOf Try.prog 30 2 4 1 false := ⟨_, _, Try.underlying30, rfl, rfl, Try.isAgg3, Try.sizeOf3⟩
theorem fa30_3 : FieldAt Try.prog 30 3 5 := FieldAt.mk Try.underlying30 rfl rfl Try.sizeOf4 (by decide)
theorem fo30_3 : FieldOf Try.prog 30 3 5 1 false := ⟨_, _, Try.underlying30, rfl, rfl, Try.isAgg4, Try.sizeOf4⟩
theorem pl30 : PlacesOf Try.prog 30 [(0, 3), (3, 1), (4, 1), (5, 1)] := ⟨_, Try.underlying30, fun _ => by kernel_rfl⟩
theorem ty32 : Ty Try.prog 32 1 24 [.slice none 0 0] := ⟨⟨_, _, (by kernel_rfl : Try.prog.info? 32 = some Try.t32), rfl, rfl, rfl, rfl⟩⟩
theorem ty33 : Ty Try.prog 33 1 8 [.int .i64 0] := ⟨⟨_, _, (by kernel_rfl : Try.prog.info? 33 = some Try.t33), rfl, rfl, rfl, rfl⟩⟩
theorem ty51 : Ty Try.prog 51 1 4 [.int .u32 0] := ⟨⟨_, _, (by kernel_rfl : Try.prog.info? 51 = some Try.t51), rfl, rfl, rfl, rfl⟩⟩
theorem ty52 : Ty Try.prog 52 3 12 [.int .u8 0, .int .u32 0, .int .u32 0] := ⟨⟨_, _, (by kernel_rfl : Try.prog.info? 52 = some Try.t52), rfl, rfl, rfl, rfl⟩⟩
theorem fa52_0 : FieldAt Try.prog 52 0 0 := FieldAt.mk Try.underlying52 rfl rfl Try.sizeOf5 (by decide)
theorem fo52_0 : FieldOf Try.prog 52 0 0 1 false := ⟨_, _, Try.underlying52, rfl, rfl, Try.isAgg5, Try.sizeOf5⟩
theorem fa52_1 : FieldAt Try.prog 52 1 1 := FieldAt.mk Try.underlying52 rfl rfl Try.sizeOf51 (by decide)
theorem fo52_1 : FieldOf Try.prog 52 1 1 1 false := ⟨_, _, Try.underlying52, rfl, rfl, Try.isAgg51, Try.sizeOf51⟩
theorem fa52_2 : FieldAt Try.prog 52 2 2 := FieldAt.mk Try.underlying52 rfl rfl Try.sizeOf51 (by decide)
theorem fo52_2 : FieldOf Try.prog 52 2 2 1 false := ⟨_, _, Try.underlying52, rfl, rfl, Try.isAgg51, Try.sizeOf51⟩
theorem pl52 : PlacesOf Try.prog 52 [(0, 1), (1, 1), (2, 1)] := ⟨_, Try.underlying52, fun _ => by kernel_rfl⟩
theorem ty53 : Ty Try.prog 53 3 12 [.int .u8 0, .int .u32 0, .int .u32 0] := ⟨⟨_, _, (by kernel_rfl : Try.prog.info? 53 = some Try.t53), rfl, rfl, rfl, rfl⟩⟩
theorem fa53_0 : FieldAt Try.prog 53 0 0 := FieldAt.mk Try.underlying53 rfl rfl Try.sizeOf5 (by decide)
theorem fo53_0 : FieldOf Try.prog 53 0 0 1 false := ⟨_, _, Try.underlying53, rfl, rfl, Try.isAgg5, Try.sizeOf5⟩
theorem fa53_1 : FieldAt Try.prog 53 1 1 := FieldAt.mk Try.underlying53 rfl rfl Try.sizeOf51 (by decide)
theorem fo53_1 : FieldOf Try.prog 53 1 1 1 false := ⟨_, _, Try.underlying53, rfl, rfl, Try.isAgg51, Try.sizeOf51⟩
theorem fa53_2 : FieldAt Try.prog 53 2 2 := FieldAt.mk Try.underlying53 rfl rfl Try.sizeOf51 (by decide)
theorem fo53_2 : FieldOf Try.prog 53 2 2 1 false := ⟨_, _, Try.underlying53, rfl, rfl, Try.isAgg51, Try.sizeOf51⟩
theorem pl53 : PlacesOf Try.prog 53 [(0, 1), (1, 1), (2, 1)] := ⟨_, Try.underlying53, fun _ => by kernel_rfl⟩
theorem ty54 : Ty Try.prog 54 4 16 [.int .i32 0, .int .u8 0, .int .u32 0, .int .u32 0] := ⟨⟨_, _, (by kernel_rfl : Try.prog.info? 54 = some Try.t54), rfl, rfl, rfl, rfl⟩⟩
theorem fa54_0 : FieldAt Try.prog 54 0 0 := FieldAt.mk Try.underlying54 rfl rfl Try.sizeOf21 (by decide)
theorem fo54_0 : FieldOf Try.prog 54 0 0 1 false := ⟨_, _, Try.underlying54, rfl, rfl, Try.isAgg21, Try.sizeOf21⟩
theorem fa54_1 : FieldAt Try.prog 54 1 1 := FieldAt.mk Try.underlying54 rfl rfl Try.sizeOf53 (by decide)
theorem fo54_1 : FieldOf Try.prog 54 1 1 3 true := ⟨_, _, Try.underlying54, rfl, rfl, Try.isAgg53, Try.sizeOf53⟩
theorem pl54 : PlacesOf Try.prog 54 [(0, 1), (1, 3)] := ⟨_, Try.underlying54, fun _ => by kernel_rfl⟩
theorem ty55 : Ty Try.prog 55 4 16 [.int .i32 0, .int .u8 0, .int .u32 0, .int .u32 0] := ⟨⟨_, _, (by kernel_rfl : Try.prog.info? 55 = some Try.t55), rfl, rfl, rfl, rfl⟩⟩
theorem fa55_0 : FieldAt Try.prog 55 0 0 := FieldAt.mk Try.underlying55 rfl rfl Try.sizeOf21 (by decide)
theorem fo55_0 : FieldOf Try.prog 55 0 0 1 false := ⟨_, _, Try.underlying55, rfl, rfl, Try.isAgg21, Try.sizeOf21⟩
theorem fa55_1 : FieldAt Try.prog 55 1 1 := FieldAt.mk Try.underlying55 rfl rfl Try.sizeOf53 (by decide)
theorem fo55_1 : FieldOf Try.prog 55 1 1 3 true := ⟨_, _, Try.underlying55, rfl, rfl, Try.isAgg53, Try.sizeOf53⟩
theorem pl55 : PlacesOf Try.prog 55 [(0, 1), (1, 3)] := ⟨_, Try.underlying55, fun _ => by kernel_rfl⟩
theorem ty61 : Ty Try.prog 61 8 8 [.bool false, .bool false, .bool false, .bool false, .bool false, .bool false, .bool false, .bool false] := ⟨⟨_, _, (by kernel_rfl : Try.prog.info? 61 = some Try.t61), rfl, rfl, rfl, rfl⟩⟩
theorem ty62 : Ty Try.prog 62 10 16 [.bool false, .bool false, .bool false, .bool false, .bool false, .bool false, .bool false, .bool false, .int .u32 0, .int .u32 0] := ⟨⟨_, _, (by kernel_rfl : Try.prog.info? 62 = some Try.t62), rfl, rfl, rfl, rfl⟩⟩
theorem fa62_0 : FieldAt Try.prog 62 0 0 := FieldAt.mk Try.underlying62 rfl rfl Try.sizeOf61 (by decide)
theorem fo62_0 : FieldOf Try.prog 62 0 0 8 true := ⟨_, _, Try.underlying62, rfl, rfl, Try.isAgg61, Try.sizeOf61⟩
theorem fa62_1 : FieldAt Try.prog 62 1 8 := FieldAt.mk Try.underlying62 rfl rfl Try.sizeOf51 (by decide)
theorem fo62_1 : FieldOf Try.prog 62 1 8 1 false := ⟨_, _, Try.underlying62, rfl, rfl, Try.isAgg51, Try.sizeOf51⟩
theorem fa62_2 : FieldAt Try.prog 62 2 9 := FieldAt.mk Try.underlying62 rfl rfl Try.sizeOf51 (by decide)
theorem fo62_2 : FieldOf Try.prog 62 2 9 1 false := ⟨_, _, Try.underlying62, rfl, rfl, Try.isAgg51, Try.sizeOf51⟩
theorem pl62 : PlacesOf Try.prog 62 [(0, 8), (8, 1), (9, 1)] := ⟨_, Try.underlying62, fun _ => by kernel_rfl⟩
theorem ty63 : Ty Try.prog 63 10 16 [.bool false, .bool false, .bool false, .bool false, .bool false, .bool false, .bool false, .bool false, .int .u32 0, .int .u32 0] := ⟨⟨_, _, (by kernel_rfl : Try.prog.info? 63 = some Try.t63), rfl, rfl, rfl, rfl⟩⟩
theorem fa63_0 : FieldAt Try.prog 63 0 0 := FieldAt.mk Try.underlying63 rfl rfl Try.sizeOf61 (by decide)
theorem fo63_0 : FieldOf Try.prog 63 0 0 8 true := ⟨_, _, Try.underlying63, rfl, rfl, Try.isAgg61, Try.sizeOf61⟩
theorem fa63_1 : FieldAt Try.prog 63 1 8 := FieldAt.mk Try.underlying63 rfl rfl Try.sizeOf51 (by decide)
theorem fo63_1 : FieldOf Try.prog 63 1 8 1 false := ⟨_, _, Try.underlying63, rfl, rfl, Try.isAgg51, Try.sizeOf51⟩
theorem fa63_2 : FieldAt Try.prog 63 2 9 := FieldAt.mk Try.underlying63 rfl rfl Try.sizeOf51 (by decide)
theorem fo63_2 : FieldOf Try.prog 63 2 9 1 false := ⟨_, _, Try.underlying63, rfl, rfl, Try.isAgg51, Try.sizeOf51⟩
theorem pl63 : PlacesOf Try.prog 63 [(0, 8), (8, 1), (9, 1)] := ⟨_, Try.underlying63, fun _ => by kernel_rfl⟩
theorem ty64 : Ty Try.prog 64 11 20 [.int .i32 0, .bool false, .bool false, .bool false, .bool false, .bool false, .bool false, .bool false, .bool false, .int .u32 0, .int .u32 0] := ⟨⟨_, _, (by kernel_rfl : Try.prog.info? 64 = some Try.t64), rfl, rfl, rfl, rfl⟩⟩
theorem fa64_0 : FieldAt Try.prog 64 0 0 := FieldAt.mk Try.underlying64 rfl rfl Try.sizeOf21 (by decide)
theorem fo64_0 : FieldOf Try.prog 64 0 0 1 false := ⟨_, _, Try.underlying64, rfl, rfl, Try.isAgg21, Try.sizeOf21⟩
theorem fa64_1 : FieldAt Try.prog 64 1 1 := FieldAt.mk Try.underlying64 rfl rfl Try.sizeOf63 (by decide)
theorem fo64_1 : FieldOf Try.prog 64 1 1 10 true := ⟨_, _, Try.underlying64, rfl, rfl, Try.isAgg63, Try.sizeOf63⟩
theorem pl64 : PlacesOf Try.prog 64 [(0, 1), (1, 10)] := ⟨_, Try.underlying64, fun _ => by kernel_rfl⟩
theorem ty65 : Ty Try.prog 65 11 20 [.int .i32 0, .bool false, .bool false, .bool false, .bool false, .bool false, .bool false, .bool false, .bool false, .int .u32 0, .int .u32 0] := ⟨⟨_, _, (by kernel_rfl : Try.prog.info? 65 = some Try.t65), rfl, rfl, rfl, rfl⟩⟩
theorem fa65_0 : FieldAt Try.prog 65 0 0 := FieldAt.mk Try.underlying65 rfl rfl Try.sizeOf21 (by decide)
theorem fo65_0 : FieldOf Try.prog 65 0 0 1 false := ⟨_, _, Try.underlying65, rfl, rfl, Try.isAgg21, Try.sizeOf21⟩
theorem fa65_1 : FieldAt Try.prog 65 1 1 := FieldAt.mk Try.underlying65 rfl rfl Try.sizeOf63 (by decide)
theorem fo65_1 : FieldOf Try.prog 65 1 1 10 true := ⟨_, _, Try.underlying65, rfl, rfl, Try.isAgg63, Try.sizeOf63⟩
theorem pl65 : PlacesOf Try.prog 65 [(0, 1), (1, 10)] := ⟨_, Try.underlying65, fun _ => by kernel_rfl⟩
theorem ty75 : Ty Try.prog 75 1 8 [.int .u64 0] := ⟨⟨_, _, (by kernel_rfl : Try.prog.info? 75 = some Try.t75), rfl, rfl, rfl, rfl⟩⟩
theorem ty76 : Ty Try.prog 76 10 112 [.int .i64 0, .int .i64 0, .slice none 0 0, .int .i64 0, .int .i64 0, .bool false, .string ⟨#[]⟩, .string ⟨#[]⟩, .int .u64 0, .int .u64 0] := ⟨⟨_, _, (by kernel_rfl : Try.prog.info? 76 = some Try.t76), rfl, rfl, rfl, rfl⟩⟩
theorem fa76_0 : FieldAt Try.prog 76 0 0 := FieldAt.mk Try.underlying76 rfl rfl Try.sizeOf24 (by decide)
theorem fo76_0 : FieldOf Try.prog 76 0 0 6 true := ⟨_, _, Try.underlying76, rfl, rfl, Try.isAgg24, Try.sizeOf24⟩
theorem fa76_1 : FieldAt Try.prog 76 1 6 := FieldAt.mk Try.underlying76 rfl rfl Try.sizeOf9 (by decide)
theorem fo76_1 : FieldOf Try.prog 76 1 6 1 false := ⟨_, _, Try.underlying76, rfl, rfl, Try.isAgg9, Try.sizeOf9⟩
theorem fa76_2 : FieldAt Try.prog 76 2 7 := FieldAt.mk Try.underlying76 rfl rfl Try.sizeOf9 (by decide)
theorem fo76_2 : FieldOf Try.prog 76 2 7 1 false := ⟨_, _, Try.underlying76, rfl, rfl, Try.isAgg9, Try.sizeOf9⟩
theorem fa76_3 : FieldAt Try.prog 76 3 8 := FieldAt.mk Try.underlying76 rfl rfl Try.sizeOf75 (by decide)
theorem fo76_3 : FieldOf Try.prog 76 3 8 1 false := ⟨_, _, Try.underlying76, rfl, rfl, Try.isAgg75, Try.sizeOf75⟩
theorem fa76_4 : FieldAt Try.prog 76 4 9 := FieldAt.mk Try.underlying76 rfl rfl Try.sizeOf75 (by decide)
theorem fo76_4 : FieldOf Try.prog 76 4 9 1 false := ⟨_, _, Try.underlying76, rfl, rfl, Try.isAgg75, Try.sizeOf75⟩
theorem pl76 : PlacesOf Try.prog 76 [(0, 6), (6, 1), (7, 1), (8, 1), (9, 1)] := ⟨_, Try.underlying76, fun _ => by kernel_rfl⟩
theorem ty77 : Ty Try.prog 77 10 112 [.int .i64 0, .int .i64 0, .slice none 0 0, .int .i64 0, .int .i64 0, .bool false, .string ⟨#[]⟩, .string ⟨#[]⟩, .int .u64 0, .int .u64 0] := ⟨⟨_, _, (by kernel_rfl : Try.prog.info? 77 = some Try.t77), rfl, rfl, rfl, rfl⟩⟩
theorem fa77_0 : FieldAt Try.prog 77 0 0 := FieldAt.mk Try.underlying77 rfl rfl Try.sizeOf24 (by decide)
theorem fo77_0 : FieldOf Try.prog 77 0 0 6 true := ⟨_, _, Try.underlying77, rfl, rfl, Try.isAgg24, Try.sizeOf24⟩
theorem fa77_1 : FieldAt Try.prog 77 1 6 := FieldAt.mk Try.underlying77 rfl rfl Try.sizeOf9 (by decide)
theorem fo77_1 : FieldOf Try.prog 77 1 6 1 false := ⟨_, _, Try.underlying77, rfl, rfl, Try.isAgg9, Try.sizeOf9⟩
theorem fa77_2 : FieldAt Try.prog 77 2 7 := FieldAt.mk Try.underlying77 rfl rfl Try.sizeOf9 (by decide)
theorem fo77_2 : FieldOf Try.prog 77 2 7 1 false := ⟨_, _, Try.underlying77, rfl, rfl, Try.isAgg9, Try.sizeOf9⟩
theorem fa77_3 : FieldAt Try.prog 77 3 8 := FieldAt.mk Try.underlying77 rfl rfl Try.sizeOf75 (by decide)
theorem fo77_3 : FieldOf Try.prog 77 3 8 1 false := ⟨_, _, Try.underlying77, rfl, rfl, Try.isAgg75, Try.sizeOf75⟩
theorem fa77_4 : FieldAt Try.prog 77 4 9 := FieldAt.mk Try.underlying77 rfl rfl Try.sizeOf75 (by decide)
theorem fo77_4 : FieldOf Try.prog 77 4 9 1 false := ⟨_, _, Try.underlying77, rfl, rfl, Try.isAgg75, Try.sizeOf75⟩
theorem pl77 : PlacesOf Try.prog 77 [(0, 6), (6, 1), (7, 1), (8, 1), (9, 1)] := ⟨_, Try.underlying77, fun _ => by kernel_rfl⟩
theorem ty79 : Ty Try.prog 79 10 112 [.int .i64 0, .int .i64 0, .slice none 0 0, .int .i64 0, .int .i64 0, .bool false, .string ⟨#[]⟩, .string ⟨#[]⟩, .int .u64 0, .int .u64 0] := ⟨⟨_, _, (by kernel_rfl : Try.prog.info? 79 = some Try.t79), rfl, rfl, rfl, rfl⟩⟩
theorem fa79_0 : FieldAt Try.prog 79 0 0 := FieldAt.mk Try.underlying79 rfl rfl Try.sizeOf30 (by decide)
theorem fo79_0 : FieldOf Try.prog 79 0 0 6 true := ⟨_, _, Try.underlying79, rfl, rfl, Try.isAgg30, Try.sizeOf30⟩
theorem fa79_1 : FieldAt Try.prog 79 1 6 := FieldAt.mk Try.underlying79 rfl rfl Try.sizeOf9 (by decide)
theorem fo79_1 : FieldOf Try.prog 79 1 6 1 false := ⟨_, _, Try.underlying79, rfl, rfl, Try.isAgg9, Try.sizeOf9⟩
theorem fa79_2 : FieldAt Try.prog 79 2 7 := FieldAt.mk Try.underlying79 rfl rfl Try.sizeOf9 (by decide)
theorem fo79_2 : FieldOf Try.prog 79 2 7 1 false := ⟨_, _, Try.underlying79, rfl, rfl, Try.isAgg9, Try.sizeOf9⟩
theorem fa79_3 : FieldAt Try.prog 79 3 8 := FieldAt.mk Try.underlying79 rfl rfl Try.sizeOf75 (by decide)
theorem fo79_3 : FieldOf Try.prog 79 3 8 1 false := ⟨_, _, Try.underlying79, rfl, rfl, Try.isAgg75, Try.sizeOf75⟩
theorem fa79_4 : FieldAt Try.prog 79 4 9 := FieldAt.mk Try.underlying79 rfl rfl Try.sizeOf75 (by decide)
theorem fo79_4 : FieldOf Try.prog 79 4 9 1 false := ⟨_, _, Try.underlying79, rfl, rfl, Try.isAgg75, Try.sizeOf75⟩
theorem pl79 : PlacesOf Try.prog 79 [(0, 6), (6, 1), (7, 1), (8, 1), (9, 1)] := ⟨_, Try.underlying79, fun _ => by kernel_rfl⟩
theorem ty80 : Ty Try.prog 80 10 112 [.int .i64 0, .int .i64 0, .slice none 0 0, .int .i64 0, .int .i64 0, .bool false, .string ⟨#[]⟩, .string ⟨#[]⟩, .int .u64 0, .int .u64 0] := ⟨⟨_, _, (by kernel_rfl : Try.prog.info? 80 = some Try.t80), rfl, rfl, rfl, rfl⟩⟩
theorem fa80_0 : FieldAt Try.prog 80 0 0 := FieldAt.mk Try.underlying80 rfl rfl Try.sizeOf30 (by decide)
theorem fo80_0 : FieldOf Try.prog 80 0 0 6 true := ⟨_, _, Try.underlying80, rfl, rfl, Try.isAgg30, Try.sizeOf30⟩
theorem fa80_1 : FieldAt Try.prog 80 1 6 := FieldAt.mk Try.underlying80 rfl rfl Try.sizeOf9 (by decide)
theorem fo80_1 : FieldOf Try.prog 80 1 6 1 false := ⟨_, _, Try.underlying80, rfl, rfl, Try.isAgg9, Try.sizeOf9⟩
theorem fa80_2 : FieldAt Try.prog 80 2 7 := FieldAt.mk Try.underlying80 rfl rfl Try.sizeOf9 (by decide)
theorem fo80_2 : FieldOf Try.prog 80 2 7 1 false := ⟨_, _, Try.underlying80, rfl, rfl, Try.isAgg9, Try.sizeOf9⟩
theorem fa80_3 : FieldAt Try.prog 80 3 8 := FieldAt.mk Try.underlying80 rfl rfl Try.sizeOf75 (by decide)
theorem fo80_3 : FieldOf Try.prog 80 3 8 1 false := ⟨_, _, Try.underlying80, rfl, rfl, Try.isAgg75, Try.sizeOf75⟩
theorem fa80_4 : FieldAt Try.prog 80 4 9 := FieldAt.mk Try.underlying80 rfl rfl Try.sizeOf75 (by decide)
theorem fo80_4 : FieldOf Try.prog 80 4 9 1 false := ⟨_, _, Try.underlying80, rfl, rfl, Try.isAgg75, Try.sizeOf75⟩
theorem pl80 : PlacesOf Try.prog 80 [(0, 6), (6, 1), (7, 1), (8, 1), (9, 1)] := ⟨_, Try.underlying80, fun _ => by kernel_rfl⟩
theorem ty93 : Ty Try.prog 93 1 24 [.slice none 0 0] := ⟨⟨_, _, (by kernel_rfl : Try.prog.info? 93 = some Try.t93), rfl, rfl, rfl, rfl⟩⟩
theorem ty94 : Ty Try.prog 94 1 8 [.pointer none] := ⟨⟨_, _, (by kernel_rfl : Try.prog.info? 94 = some Try.t94), rfl, rfl, rfl, rfl⟩⟩
theorem ty97 : Ty Try.prog 97 13 152 [.bool false, .int .i64 0, .int .i64 0, .slice none 0 0, .int .i64 0, .int .i64 0, .bool false, .string ⟨#[]⟩, .string ⟨#[]⟩, .int .u64 0, .int .u64 0, .int .u64 0, .slice none 0 0] := ⟨⟨_, _, (by kernel_rfl : Try.prog.info? 97 = some Try.t97), rfl, rfl, rfl, rfl⟩⟩
theorem fa97_0 : FieldAt Try.prog 97 0 0 := FieldAt.mk Try.underlying97 rfl rfl Try.sizeOf4 (by decide)
theorem fo97_0 : FieldOf Try.prog 97 0 0 1 false := ⟨_, _, Try.underlying97, rfl, rfl, Try.isAgg4, Try.sizeOf4⟩
theorem fa97_1 : FieldAt Try.prog 97 1 1 := FieldAt.mk Try.underlying97 rfl rfl Try.sizeOf77 (by decide)
theorem fo97_1 : FieldOf Try.prog 97 1 1 10 true := ⟨_, _, Try.underlying97, rfl, rfl, Try.isAgg77, Try.sizeOf77⟩
theorem fa97_2 : FieldAt Try.prog 97 2 11 := FieldAt.mk Try.underlying97 rfl rfl Try.sizeOf75 (by decide)
theorem fo97_2 : FieldOf Try.prog 97 2 11 1 false := ⟨_, _, Try.underlying97, rfl, rfl, Try.isAgg75, Try.sizeOf75⟩
theorem fa97_3 : FieldAt Try.prog 97 3 12 := FieldAt.mk Try.underlying97 rfl rfl Try.sizeOf32 (by decide)
theorem fo97_3 : FieldOf Try.prog 97 3 12 1 false := ⟨_, _, Try.underlying97, rfl, rfl, Try.isAgg32, Try.sizeOf32⟩
theorem pl97 : PlacesOf Try.prog 97 [(0, 1), (1, 10), (11, 1), (12, 1)] := ⟨_, Try.underlying97, fun _ => by kernel_rfl⟩
theorem ty98 : Ty Try.prog 98 13 152 [.bool false, .int .i64 0, .int .i64 0, .slice none 0 0, .int .i64 0, .int .i64 0, .bool false, .string ⟨#[]⟩, .string ⟨#[]⟩, .int .u64 0, .int .u64 0, .int .u64 0, .slice none 0 0] := ⟨⟨_, _, (by kernel_rfl : Try.prog.info? 98 = some Try.t98), rfl, rfl, rfl, rfl⟩⟩
theorem fa98_0 : FieldAt Try.prog 98 0 0 := FieldAt.mk Try.underlying98 rfl rfl Try.sizeOf4 (by decide)
theorem fo98_0 : FieldOf Try.prog 98 0 0 1 false := ⟨_, _, Try.underlying98, rfl, rfl, Try.isAgg4, Try.sizeOf4⟩
theorem fa98_1 : FieldAt Try.prog 98 1 1 := FieldAt.mk Try.underlying98 rfl rfl Try.sizeOf77 (by decide)
theorem fo98_1 : FieldOf Try.prog 98 1 1 10 true := ⟨_, _, Try.underlying98, rfl, rfl, Try.isAgg77, Try.sizeOf77⟩
theorem fa98_2 : FieldAt Try.prog 98 2 11 := FieldAt.mk Try.underlying98 rfl rfl Try.sizeOf75 (by decide)
theorem fo98_2 : FieldOf Try.prog 98 2 11 1 false := ⟨_, _, Try.underlying98, rfl, rfl, Try.isAgg75, Try.sizeOf75⟩
theorem fa98_3 : FieldAt Try.prog 98 3 12 := FieldAt.mk Try.underlying98 rfl rfl Try.sizeOf32 (by decide)
theorem fo98_3 : FieldOf Try.prog 98 3 12 1 false := ⟨_, _, Try.underlying98, rfl, rfl, Try.isAgg32, Try.sizeOf32⟩
theorem pl98 : PlacesOf Try.prog 98 [(0, 1), (1, 10), (11, 1), (12, 1)] := ⟨_, Try.underlying98, fun _ => by kernel_rfl⟩
theorem ty102 : Ty Try.prog 102 1 24 [.slice none 0 0] := ⟨⟨_, _, (by kernel_rfl : Try.prog.info? 102 = some Try.t102), rfl, rfl, rfl, rfl⟩⟩
theorem ty111 : Ty Try.prog 111 1 24 [.slice none 0 0] := ⟨⟨_, _, (by kernel_rfl : Try.prog.info? 111 = some Try.t111), rfl, rfl, rfl, rfl⟩⟩
theorem ty114 : Ty Try.prog 114 2 32 [.int .i64 0, .slice none 0 0] := ⟨⟨_, _, (by kernel_rfl : Try.prog.info? 114 = some Try.t114), rfl, rfl, rfl, rfl⟩⟩
theorem fa114_0 : FieldAt Try.prog 114 0 0 := FieldAt.mk Try.underlying114 rfl rfl Try.sizeOf3 (by decide)
theorem fo114_0 : FieldOf Try.prog 114 0 0 1 false := ⟨_, _, Try.underlying114, rfl, rfl, Try.isAgg3, Try.sizeOf3⟩
theorem fa114_1 : FieldAt Try.prog 114 1 1 := FieldAt.mk Try.underlying114 rfl rfl Try.sizeOf22 (by decide)
theorem fo114_1 : FieldOf Try.prog 114 1 1 1 false := ⟨_, _, Try.underlying114, rfl, rfl, Try.isAgg22, Try.sizeOf22⟩
theorem pl114 : PlacesOf Try.prog 114 [(0, 1), (1, 1)] := ⟨_, Try.underlying114, fun _ => by kernel_rfl⟩
theorem ty115 : Ty Try.prog 115 2 32 [.int .i64 0, .slice none 0 0] := ⟨⟨_, _, (by kernel_rfl : Try.prog.info? 115 = some Try.t115), rfl, rfl, rfl, rfl⟩⟩
theorem fa115_0 : FieldAt Try.prog 115 0 0 := FieldAt.mk Try.underlying115 rfl rfl Try.sizeOf3 (by decide)
theorem fo115_0 : FieldOf Try.prog 115 0 0 1 false := ⟨_, _, Try.underlying115, rfl, rfl, Try.isAgg3, Try.sizeOf3⟩
theorem fa115_1 : FieldAt Try.prog 115 1 1 := FieldAt.mk Try.underlying115 rfl rfl Try.sizeOf22 (by decide)
theorem fo115_1 : FieldOf Try.prog 115 1 1 1 false := ⟨_, _, Try.underlying115, rfl, rfl, Try.isAgg22, Try.sizeOf22⟩
theorem pl115 : PlacesOf Try.prog 115 [(0, 1), (1, 1)] := ⟨_, Try.underlying115, fun _ => by kernel_rfl⟩
theorem ty136 : Ty Try.prog 136 2 32 [.int .u8 0, .slice none 0 0] := ⟨⟨_, _, (by kernel_rfl : Try.prog.info? 136 = some Try.t136), rfl, rfl, rfl, rfl⟩⟩
theorem fa136_0 : FieldAt Try.prog 136 0 0 := FieldAt.mk Try.underlying136 rfl rfl Try.sizeOf5 (by decide)
theorem fo136_0 : FieldOf Try.prog 136 0 0 1 false := ⟨_, _, Try.underlying136, rfl, rfl, Try.isAgg5, Try.sizeOf5⟩
theorem fa136_1 : FieldAt Try.prog 136 1 1 := FieldAt.mk Try.underlying136 rfl rfl Try.sizeOf32 (by decide)
theorem fo136_1 : FieldOf Try.prog 136 1 1 1 false := ⟨_, _, Try.underlying136, rfl, rfl, Try.isAgg32, Try.sizeOf32⟩
theorem pl136 : PlacesOf Try.prog 136 [(0, 1), (1, 1)] := ⟨_, Try.underlying136, fun _ => by kernel_rfl⟩
theorem ty137 : Ty Try.prog 137 2 32 [.int .u8 0, .slice none 0 0] := ⟨⟨_, _, (by kernel_rfl : Try.prog.info? 137 = some Try.t137), rfl, rfl, rfl, rfl⟩⟩
theorem fa137_0 : FieldAt Try.prog 137 0 0 := FieldAt.mk Try.underlying137 rfl rfl Try.sizeOf5 (by decide)
theorem fo137_0 : FieldOf Try.prog 137 0 0 1 false := ⟨_, _, Try.underlying137, rfl, rfl, Try.isAgg5, Try.sizeOf5⟩
theorem fa137_1 : FieldAt Try.prog 137 1 1 := FieldAt.mk Try.underlying137 rfl rfl Try.sizeOf32 (by decide)
theorem fo137_1 : FieldOf Try.prog 137 1 1 1 false := ⟨_, _, Try.underlying137, rfl, rfl, Try.isAgg32, Try.sizeOf32⟩
theorem pl137 : PlacesOf Try.prog 137 [(0, 1), (1, 1)] := ⟨_, Try.underlying137, fun _ => by kernel_rfl⟩
theorem ty138 : Ty Try.prog 138 1 24 [.slice none 0 0] := ⟨⟨_, _, (by kernel_rfl : Try.prog.info? 138 = some Try.t138), rfl, rfl, rfl, rfl⟩⟩
theorem ty140 : Ty Try.prog 140 2 24 [.string ⟨#[]⟩, .int .u64 0] := ⟨⟨_, _, (by kernel_rfl : Try.prog.info? 140 = some Try.t140), rfl, rfl, rfl, rfl⟩⟩
theorem fa140_0 : FieldAt Try.prog 140 0 0 := FieldAt.mk Try.underlying140 rfl rfl Try.sizeOf9 (by decide)
theorem fo140_0 : FieldOf Try.prog 140 0 0 1 false := ⟨_, _, Try.underlying140, rfl, rfl, Try.isAgg9, Try.sizeOf9⟩
theorem fa140_1 : FieldAt Try.prog 140 1 1 := FieldAt.mk Try.underlying140 rfl rfl Try.sizeOf75 (by decide)
theorem fo140_1 : FieldOf Try.prog 140 1 1 1 false := ⟨_, _, Try.underlying140, rfl, rfl, Try.isAgg75, Try.sizeOf75⟩
theorem pl140 : PlacesOf Try.prog 140 [(0, 1), (1, 1)] := ⟨_, Try.underlying140, fun _ => by kernel_rfl⟩
theorem ty141 : Ty Try.prog 141 2 24 [.string ⟨#[]⟩, .int .u64 0] := ⟨⟨_, _, (by kernel_rfl : Try.prog.info? 141 = some Try.t141), rfl, rfl, rfl, rfl⟩⟩
theorem fa141_0 : FieldAt Try.prog 141 0 0 := FieldAt.mk Try.underlying141 rfl rfl Try.sizeOf9 (by decide)
theorem fo141_0 : FieldOf Try.prog 141 0 0 1 false := ⟨_, _, Try.underlying141, rfl, rfl, Try.isAgg9, Try.sizeOf9⟩
theorem fa141_1 : FieldAt Try.prog 141 1 1 := FieldAt.mk Try.underlying141 rfl rfl Try.sizeOf75 (by decide)
theorem fo141_1 : FieldOf Try.prog 141 1 1 1 false := ⟨_, _, Try.underlying141, rfl, rfl, Try.isAgg75, Try.sizeOf75⟩
theorem pl141 : PlacesOf Try.prog 141 [(0, 1), (1, 1)] := ⟨_, Try.underlying141, fun _ => by kernel_rfl⟩
theorem ty149 : Ty Try.prog 149 1 24 [.slice none 0 0] := ⟨⟨_, _, (by kernel_rfl : Try.prog.info? 149 = some Try.t149), rfl, rfl, rfl, rfl⟩⟩
theorem ty152 : Ty Try.prog 152 2 32 [.int .u8 0, .slice none 0 0] := ⟨⟨_, _, (by kernel_rfl : Try.prog.info? 152 = some Try.t152), rfl, rfl, rfl, rfl⟩⟩
theorem fa152_0 : FieldAt Try.prog 152 0 0 := FieldAt.mk Try.underlying152 rfl rfl Try.sizeOf5 (by decide)
theorem fo152_0 : FieldOf Try.prog 152 0 0 1 false := ⟨_, _, Try.underlying152, rfl, rfl, Try.isAgg5, Try.sizeOf5⟩
theorem fa152_1 : FieldAt Try.prog 152 1 1 := FieldAt.mk Try.underlying152 rfl rfl Try.sizeOf32 (by decide)
theorem fo152_1 : FieldOf Try.prog 152 1 1 1 false := ⟨_, _, Try.underlying152, rfl, rfl, Try.isAgg32, Try.sizeOf32⟩
theorem pl152 : PlacesOf Try.prog 152 [(0, 1), (1, 1)] := ⟨_, Try.underlying152, fun _ => by kernel_rfl⟩
theorem ty153 : Ty Try.prog 153 2 16 [.int .i64 0, .int .i64 0] := ⟨⟨_, _, (by kernel_rfl : Try.prog.info? 153 = some Try.t153), rfl, rfl, rfl, rfl⟩⟩
theorem fa153_0 : FieldAt Try.prog 153 0 0 := FieldAt.mk Try.underlying153 rfl rfl Try.sizeOf3 (by decide)
theorem fo153_0 : FieldOf Try.prog 153 0 0 1 false := ⟨_, _, Try.underlying153, rfl, rfl, Try.isAgg3, Try.sizeOf3⟩
theorem fa153_1 : FieldAt Try.prog 153 1 1 := FieldAt.mk Try.underlying153 rfl rfl Try.sizeOf3 (by decide)
theorem fo153_1 : FieldOf Try.prog 153 1 1 1 false := ⟨_, _, Try.underlying153, rfl, rfl, Try.isAgg3, Try.sizeOf3⟩
theorem pl153 : PlacesOf Try.prog 153 [(0, 1), (1, 1)] := ⟨_, Try.underlying153, fun _ => by kernel_rfl⟩
theorem ty154 : Ty Try.prog 154 2 16 [.int .i64 0, .int .i64 0] := ⟨⟨_, _, (by kernel_rfl : Try.prog.info? 154 = some Try.t154), rfl, rfl, rfl, rfl⟩⟩
theorem fa154_0 : FieldAt Try.prog 154 0 0 := FieldAt.mk Try.underlying154 rfl rfl Try.sizeOf3 (by decide)
theorem fo154_0 : FieldOf Try.prog 154 0 0 1 false := ⟨_, _, Try.underlying154, rfl, rfl, Try.isAgg3, Try.sizeOf3⟩
theorem fa154_1 : FieldAt Try.prog 154 1 1 := FieldAt.mk Try.underlying154 rfl rfl Try.sizeOf3 (by decide)
theorem fo154_1 : FieldOf Try.prog 154 1 1 1 false := ⟨_, _, Try.underlying154, rfl, rfl, Try.isAgg3, Try.sizeOf3⟩
theorem pl154 : PlacesOf Try.prog 154 [(0, 1), (1, 1)] := ⟨_, Try.underlying154, fun _ => by kernel_rfl⟩
theorem ty155 : Ty Try.prog 155 18 192 [.bool false, .int .i64 0, .int .i64 0, .slice none 0 0, .int .i64 0, .int .i64 0, .bool false, .string ⟨#[]⟩, .string ⟨#[]⟩, .int .u64 0, .int .u64 0, .slice none 0 0, .int .i64 0, .int .i64 0, .bool false, .int .u64 0, .int .i64 0, .int .i64 0] := ⟨⟨_, _, (by kernel_rfl : Try.prog.info? 155 = some Try.t155), rfl, rfl, rfl, rfl⟩⟩
theorem fa155_0 : FieldAt Try.prog 155 0 0 := FieldAt.mk Try.underlying155 rfl rfl Try.sizeOf4 (by decide)
theorem fo155_0 : FieldOf Try.prog 155 0 0 1 false := ⟨_, _, Try.underlying155, rfl, rfl, Try.isAgg4, Try.sizeOf4⟩
theorem fa155_1 : FieldAt Try.prog 155 1 1 := FieldAt.mk Try.underlying155 rfl rfl Try.sizeOf77 (by decide)
theorem fo155_1 : FieldOf Try.prog 155 1 1 10 true := ⟨_, _, Try.underlying155, rfl, rfl, Try.isAgg77, Try.sizeOf77⟩
theorem fa155_2 : FieldAt Try.prog 155 2 11 := FieldAt.mk Try.underlying155 rfl rfl Try.sizeOf102 (by decide)
theorem fo155_2 : FieldOf Try.prog 155 2 11 1 false := ⟨_, _, Try.underlying155, rfl, rfl, Try.isAgg102, Try.sizeOf102⟩
theorem fa155_3 : FieldAt Try.prog 155 3 12 := FieldAt.mk Try.underlying155 rfl rfl Try.sizeOf154 (by decide)
theorem fo155_3 : FieldOf Try.prog 155 3 12 2 true := ⟨_, _, Try.underlying155, rfl, rfl, Try.isAgg154, Try.sizeOf154⟩
theorem fa155_4 : FieldAt Try.prog 155 4 14 := FieldAt.mk Try.underlying155 rfl rfl Try.sizeOf4 (by decide)
theorem fo155_4 : FieldOf Try.prog 155 4 14 1 false := ⟨_, _, Try.underlying155, rfl, rfl, Try.isAgg4, Try.sizeOf4⟩
theorem fa155_5 : FieldAt Try.prog 155 5 15 := FieldAt.mk Try.underlying155 rfl rfl Try.sizeOf75 (by decide)
theorem fo155_5 : FieldOf Try.prog 155 5 15 1 false := ⟨_, _, Try.underlying155, rfl, rfl, Try.isAgg75, Try.sizeOf75⟩
theorem fa155_6 : FieldAt Try.prog 155 6 16 := FieldAt.mk Try.underlying155 rfl rfl Try.sizeOf3 (by decide)
theorem fo155_6 : FieldOf Try.prog 155 6 16 1 false := ⟨_, _, Try.underlying155, rfl, rfl, Try.isAgg3, Try.sizeOf3⟩
theorem fa155_7 : FieldAt Try.prog 155 7 17 := FieldAt.mk Try.underlying155 rfl rfl Try.sizeOf3 (by decide)
theorem fo155_7 : FieldOf Try.prog 155 7 17 1 false := ⟨_, _, Try.underlying155, rfl, rfl, Try.isAgg3, Try.sizeOf3⟩
theorem pl155 : PlacesOf Try.prog 155 [(0, 1), (1, 10), (11, 1), (12, 2), (14, 1), (15, 1), (16, 1), (17, 1)] := ⟨_, Try.underlying155, fun _ => by kernel_rfl⟩
theorem ty156 : Ty Try.prog 156 18 192 [.bool false, .int .i64 0, .int .i64 0, .slice none 0 0, .int .i64 0, .int .i64 0, .bool false, .string ⟨#[]⟩, .string ⟨#[]⟩, .int .u64 0, .int .u64 0, .slice none 0 0, .int .i64 0, .int .i64 0, .bool false, .int .u64 0, .int .i64 0, .int .i64 0] := ⟨⟨_, _, (by kernel_rfl : Try.prog.info? 156 = some Try.t156), rfl, rfl, rfl, rfl⟩⟩
theorem fa156_0 : FieldAt Try.prog 156 0 0 := FieldAt.mk Try.underlying156 rfl rfl Try.sizeOf4 (by decide)
theorem fo156_0 : FieldOf Try.prog 156 0 0 1 false := ⟨_, _, Try.underlying156, rfl, rfl, Try.isAgg4, Try.sizeOf4⟩
theorem fa156_1 : FieldAt Try.prog 156 1 1 := FieldAt.mk Try.underlying156 rfl rfl Try.sizeOf77 (by decide)
theorem fo156_1 : FieldOf Try.prog 156 1 1 10 true := ⟨_, _, Try.underlying156, rfl, rfl, Try.isAgg77, Try.sizeOf77⟩
theorem fa156_2 : FieldAt Try.prog 156 2 11 := FieldAt.mk Try.underlying156 rfl rfl Try.sizeOf102 (by decide)
theorem fo156_2 : FieldOf Try.prog 156 2 11 1 false := ⟨_, _, Try.underlying156, rfl, rfl, Try.isAgg102, Try.sizeOf102⟩
theorem fa156_3 : FieldAt Try.prog 156 3 12 := FieldAt.mk Try.underlying156 rfl rfl Try.sizeOf154 (by decide)
theorem fo156_3 : FieldOf Try.prog 156 3 12 2 true := ⟨_, _, Try.underlying156, rfl, rfl, Try.isAgg154, Try.sizeOf154⟩
theorem fa156_4 : FieldAt Try.prog 156 4 14 := FieldAt.mk Try.underlying156 rfl rfl Try.sizeOf4 (by decide)
theorem fo156_4 : FieldOf Try.prog 156 4 14 1 false := ⟨_, _, Try.underlying156, rfl, rfl, Try.isAgg4, Try.sizeOf4⟩
theorem fa156_5 : FieldAt Try.prog 156 5 15 := FieldAt.mk Try.underlying156 rfl rfl Try.sizeOf75 (by decide)
theorem fo156_5 : FieldOf Try.prog 156 5 15 1 false := ⟨_, _, Try.underlying156, rfl, rfl, Try.isAgg75, Try.sizeOf75⟩
theorem fa156_6 : FieldAt Try.prog 156 6 16 := FieldAt.mk Try.underlying156 rfl rfl Try.sizeOf3 (by decide)
theorem fo156_6 : FieldOf Try.prog 156 6 16 1 false := ⟨_, _, Try.underlying156, rfl, rfl, Try.isAgg3, Try.sizeOf3⟩
theorem fa156_7 : FieldAt Try.prog 156 7 17 := FieldAt.mk Try.underlying156 rfl rfl Try.sizeOf3 (by decide)
theorem fo156_7 : FieldOf Try.prog 156 7 17 1 false := ⟨_, _, Try.underlying156, rfl, rfl, Try.isAgg3, Try.sizeOf3⟩
theorem pl156 : PlacesOf Try.prog 156 [(0, 1), (1, 10), (11, 1), (12, 2), (14, 1), (15, 1), (16, 1), (17, 1)] := ⟨_, Try.underlying156, fun _ => by kernel_rfl⟩
theorem ty161 : Ty Try.prog 161 4 32 [.int .u64 0, .int .i64 0, .int .i64 0, .int .i32 0] := ⟨⟨_, _, (by kernel_rfl : Try.prog.info? 161 = some Try.t161), rfl, rfl, rfl, rfl⟩⟩
theorem fa161_0 : FieldAt Try.prog 161 0 0 := FieldAt.mk Try.underlying161 rfl rfl Try.sizeOf75 (by decide)
theorem fo161_0 : FieldOf Try.prog 161 0 0 1 false := ⟨_, _, Try.underlying161, rfl, rfl, Try.isAgg75, Try.sizeOf75⟩
theorem fa161_1 : FieldAt Try.prog 161 1 1 := FieldAt.mk Try.underlying161 rfl rfl Try.sizeOf3 (by decide)
theorem fo161_1 : FieldOf Try.prog 161 1 1 1 false := ⟨_, _, Try.underlying161, rfl, rfl, Try.isAgg3, Try.sizeOf3⟩
theorem fa161_2 : FieldAt Try.prog 161 2 2 := FieldAt.mk Try.underlying161 rfl rfl Try.sizeOf3 (by decide)
theorem fo161_2 : FieldOf Try.prog 161 2 2 1 false := ⟨_, _, Try.underlying161, rfl, rfl, Try.isAgg3, Try.sizeOf3⟩
theorem fa161_3 : FieldAt Try.prog 161 3 3 := FieldAt.mk Try.underlying161 rfl rfl Try.sizeOf21 (by decide)
theorem fo161_3 : FieldOf Try.prog 161 3 3 1 false := ⟨_, _, Try.underlying161, rfl, rfl, Try.isAgg21, Try.sizeOf21⟩
theorem pl161 : PlacesOf Try.prog 161 [(0, 1), (1, 1), (2, 1), (3, 1)] := ⟨_, Try.underlying161, fun _ => by kernel_rfl⟩
theorem ty162 : Ty Try.prog 162 4 32 [.int .u64 0, .int .i64 0, .int .i64 0, .int .i32 0] := ⟨⟨_, _, (by kernel_rfl : Try.prog.info? 162 = some Try.t162), rfl, rfl, rfl, rfl⟩⟩
theorem fa162_0 : FieldAt Try.prog 162 0 0 := FieldAt.mk Try.underlying162 rfl rfl Try.sizeOf75 (by decide)
theorem fo162_0 : FieldOf Try.prog 162 0 0 1 false := ⟨_, _, Try.underlying162, rfl, rfl, Try.isAgg75, Try.sizeOf75⟩
theorem fa162_1 : FieldAt Try.prog 162 1 1 := FieldAt.mk Try.underlying162 rfl rfl Try.sizeOf3 (by decide)
theorem fo162_1 : FieldOf Try.prog 162 1 1 1 false := ⟨_, _, Try.underlying162, rfl, rfl, Try.isAgg3, Try.sizeOf3⟩
theorem fa162_2 : FieldAt Try.prog 162 2 2 := FieldAt.mk Try.underlying162 rfl rfl Try.sizeOf3 (by decide)
theorem fo162_2 : FieldOf Try.prog 162 2 2 1 false := ⟨_, _, Try.underlying162, rfl, rfl, Try.isAgg3, Try.sizeOf3⟩
theorem fa162_3 : FieldAt Try.prog 162 3 3 := FieldAt.mk Try.underlying162 rfl rfl Try.sizeOf21 (by decide)
theorem fo162_3 : FieldOf Try.prog 162 3 3 1 false := ⟨_, _, Try.underlying162, rfl, rfl, Try.isAgg21, Try.sizeOf21⟩
theorem pl162 : PlacesOf Try.prog 162 [(0, 1), (1, 1), (2, 1), (3, 1)] := ⟨_, Try.underlying162, fun _ => by kernel_rfl⟩
theorem ty167 : Ty Try.prog 167 1 24 [.slice none 0 0] := ⟨⟨_, _, (by kernel_rfl : Try.prog.info? 167 = some Try.t167), rfl, rfl, rfl, rfl⟩⟩
theorem ty173 : Ty Try.prog 173 1 8 [.pointer none] := ⟨⟨_, _, (by kernel_rfl : Try.prog.info? 173 = some Try.t173), rfl, rfl, rfl, rfl⟩⟩
theorem ty174 : Ty Try.prog 174 1 8 [.pointer none] := ⟨⟨_, _, (by kernel_rfl : Try.prog.info? 174 = some Try.t174), rfl, rfl, rfl, rfl⟩⟩
theorem ty180 : Ty Try.prog 180 1 8 [.int .u64 0] := ⟨⟨_, _, (by kernel_rfl : Try.prog.info? 180 = some Try.t180), rfl, rfl, rfl, rfl⟩⟩
theorem ty184 : Ty Try.prog 184 2 8 [.int .u32 0, .int .u32 0] := ⟨⟨_, _, (by kernel_rfl : Try.prog.info? 184 = some Try.t184), rfl, rfl, rfl, rfl⟩⟩
theorem ty185 : Ty Try.prog 185 2 16 [.int .u64 0, .int .u64 0] := ⟨⟨_, _, (by kernel_rfl : Try.prog.info? 185 = some Try.t185), rfl, rfl, rfl, rfl⟩⟩
theorem ty195 : Ty Try.prog 195 1 24 [.slice none 0 0] := ⟨⟨_, _, (by kernel_rfl : Try.prog.info? 195 = some Try.t195), rfl, rfl, rfl, rfl⟩⟩
theorem ty196 : Ty Try.prog 196 2 32 [.int .i64 0, .slice none 0 0] := ⟨⟨_, _, (by kernel_rfl : Try.prog.info? 196 = some Try.t196), rfl, rfl, rfl, rfl⟩⟩
theorem fa196_0 : FieldAt Try.prog 196 0 0 := FieldAt.mk Try.underlying196 rfl rfl Try.sizeOf3 (by decide)
theorem fo196_0 : FieldOf Try.prog 196 0 0 1 false := ⟨_, _, Try.underlying196, rfl, rfl, Try.isAgg3, Try.sizeOf3⟩
theorem fa196_1 : FieldAt Try.prog 196 1 1 := FieldAt.mk Try.underlying196 rfl rfl Try.sizeOf195 (by decide)
theorem fo196_1 : FieldOf Try.prog 196 1 1 1 false := ⟨_, _, Try.underlying196, rfl, rfl, Try.isAgg195, Try.sizeOf195⟩
theorem pl196 : PlacesOf Try.prog 196 [(0, 1), (1, 1)] := ⟨_, Try.underlying196, fun _ => by kernel_rfl⟩
theorem ty197 : Ty Try.prog 197 2 32 [.int .i64 0, .slice none 0 0] := ⟨⟨_, _, (by kernel_rfl : Try.prog.info? 197 = some Try.t197), rfl, rfl, rfl, rfl⟩⟩
theorem fa197_0 : FieldAt Try.prog 197 0 0 := FieldAt.mk Try.underlying197 rfl rfl Try.sizeOf3 (by decide)
theorem fo197_0 : FieldOf Try.prog 197 0 0 1 false := ⟨_, _, Try.underlying197, rfl, rfl, Try.isAgg3, Try.sizeOf3⟩
theorem fa197_1 : FieldAt Try.prog 197 1 1 := FieldAt.mk Try.underlying197 rfl rfl Try.sizeOf195 (by decide)
theorem fo197_1 : FieldOf Try.prog 197 1 1 1 false := ⟨_, _, Try.underlying197, rfl, rfl, Try.isAgg195, Try.sizeOf195⟩
theorem pl197 : PlacesOf Try.prog 197 [(0, 1), (1, 1)] := ⟨_, Try.underlying197, fun _ => by kernel_rfl⟩
theorem ty198 : Ty Try.prog 198 1 8 [.pointer none] := ⟨⟨_, _, (by kernel_rfl : Try.prog.info? 198 = some Try.t198), rfl, rfl, rfl, rfl⟩⟩
theorem ty199 : Ty Try.prog 199 1 8 [.pointer none] := ⟨⟨_, _, (by kernel_rfl : Try.prog.info? 199 = some Try.t199), rfl, rfl, rfl, rfl⟩⟩
theorem ty201 : Ty Try.prog 201 4 4 [.bool false, .bool false, .bool false, .bool false] := ⟨⟨_, _, (by kernel_rfl : Try.prog.info? 201 = some Try.t201), rfl, rfl, rfl, rfl⟩⟩
theorem fa201_0 : FieldAt Try.prog 201 0 0 := FieldAt.mk Try.underlying201 rfl rfl Try.sizeOf4 (by decide)
theorem fo201_0 : FieldOf Try.prog 201 0 0 1 false := ⟨_, _, Try.underlying201, rfl, rfl, Try.isAgg4, Try.sizeOf4⟩
theorem fa201_1 : FieldAt Try.prog 201 1 1 := FieldAt.mk Try.underlying201 rfl rfl Try.sizeOf4 (by decide)
theorem fo201_1 : FieldOf Try.prog 201 1 1 1 false := ⟨_, _, Try.underlying201, rfl, rfl, Try.isAgg4, Try.sizeOf4⟩
theorem fa201_2 : FieldAt Try.prog 201 2 2 := FieldAt.mk Try.underlying201 rfl rfl Try.sizeOf4 (by decide)
theorem fo201_2 : FieldOf Try.prog 201 2 2 1 false := ⟨_, _, Try.underlying201, rfl, rfl, Try.isAgg4, Try.sizeOf4⟩
theorem fa201_3 : FieldAt Try.prog 201 3 3 := FieldAt.mk Try.underlying201 rfl rfl Try.sizeOf4 (by decide)
theorem fo201_3 : FieldOf Try.prog 201 3 3 1 false := ⟨_, _, Try.underlying201, rfl, rfl, Try.isAgg4, Try.sizeOf4⟩
theorem pl201 : PlacesOf Try.prog 201 [(0, 1), (1, 1), (2, 1), (3, 1)] := ⟨_, Try.underlying201, fun _ => by kernel_rfl⟩
theorem ty202 : Ty Try.prog 202 4 4 [.bool false, .bool false, .bool false, .bool false] := ⟨⟨_, _, (by kernel_rfl : Try.prog.info? 202 = some Try.t202), rfl, rfl, rfl, rfl⟩⟩
theorem fa202_0 : FieldAt Try.prog 202 0 0 := FieldAt.mk Try.underlying202 rfl rfl Try.sizeOf4 (by decide)
theorem fo202_0 : FieldOf Try.prog 202 0 0 1 false := ⟨_, _, Try.underlying202, rfl, rfl, Try.isAgg4, Try.sizeOf4⟩
theorem fa202_1 : FieldAt Try.prog 202 1 1 := FieldAt.mk Try.underlying202 rfl rfl Try.sizeOf4 (by decide)
theorem fo202_1 : FieldOf Try.prog 202 1 1 1 false := ⟨_, _, Try.underlying202, rfl, rfl, Try.isAgg4, Try.sizeOf4⟩
theorem fa202_2 : FieldAt Try.prog 202 2 2 := FieldAt.mk Try.underlying202 rfl rfl Try.sizeOf4 (by decide)
theorem fo202_2 : FieldOf Try.prog 202 2 2 1 false := ⟨_, _, Try.underlying202, rfl, rfl, Try.isAgg4, Try.sizeOf4⟩
theorem fa202_3 : FieldAt Try.prog 202 3 3 := FieldAt.mk Try.underlying202 rfl rfl Try.sizeOf4 (by decide)
theorem fo202_3 : FieldOf Try.prog 202 3 3 1 false := ⟨_, _, Try.underlying202, rfl, rfl, Try.isAgg4, Try.sizeOf4⟩
theorem pl202 : PlacesOf Try.prog 202 [(0, 1), (1, 1), (2, 1), (3, 1)] := ⟨_, Try.underlying202, fun _ => by kernel_rfl⟩
theorem ty203 : Ty Try.prog 203 40 40 [.bool false, .bool false, .bool false, .bool false, .bool false, .bool false, .bool false, .bool false, .bool false, .bool false, .bool false, .bool false, .bool false, .bool false, .bool false, .bool false, .bool false, .bool false, .bool false, .bool false, .bool false, .bool false, .bool false, .bool false, .bool false, .bool false, .bool false, .bool false, .bool false, .bool false, .bool false, .bool false, .bool false, .bool false, .bool false, .bool false, .bool false, .bool false, .bool false, .bool false] := ⟨⟨_, _, (by kernel_rfl : Try.prog.info? 203 = some Try.t203), rfl, rfl, rfl, rfl⟩⟩
theorem ty204 : Ty Try.prog 204 6 32 [.int .i64 0, .int .i64 0, .int .u8 0, .int .u32 0, .int .u32 0, .bool false] := ⟨⟨_, _, (by kernel_rfl : Try.prog.info? 204 = some Try.t204), rfl, rfl, rfl, rfl⟩⟩
theorem fa204_0 : FieldAt Try.prog 204 0 0 := FieldAt.mk Try.underlying204 rfl rfl Try.sizeOf3 (by decide)
theorem fo204_0 : FieldOf Try.prog 204 0 0 1 false := ⟨_, _, Try.underlying204, rfl, rfl, Try.isAgg3, Try.sizeOf3⟩
theorem fa204_1 : FieldAt Try.prog 204 1 1 := FieldAt.mk Try.underlying204 rfl rfl Try.sizeOf3 (by decide)
theorem fo204_1 : FieldOf Try.prog 204 1 1 1 false := ⟨_, _, Try.underlying204, rfl, rfl, Try.isAgg3, Try.sizeOf3⟩
theorem fa204_2 : FieldAt Try.prog 204 2 2 := FieldAt.mk Try.underlying204 rfl rfl Try.sizeOf53 (by decide)
theorem fo204_2 : FieldOf Try.prog 204 2 2 3 true := ⟨_, _, Try.underlying204, rfl, rfl, Try.isAgg53, Try.sizeOf53⟩
theorem fa204_3 : FieldAt Try.prog 204 3 5 := FieldAt.mk Try.underlying204 rfl rfl Try.sizeOf4 (by decide)
theorem fo204_3 : FieldOf Try.prog 204 3 5 1 false := ⟨_, _, Try.underlying204, rfl, rfl, Try.isAgg4, Try.sizeOf4⟩
theorem pl204 : PlacesOf Try.prog 204 [(0, 1), (1, 1), (2, 3), (5, 1)] := ⟨_, Try.underlying204, fun _ => by kernel_rfl⟩
theorem ty205 : Ty Try.prog 205 6 32 [.int .i64 0, .int .i64 0, .int .u8 0, .int .u32 0, .int .u32 0, .bool false] := ⟨⟨_, _, (by kernel_rfl : Try.prog.info? 205 = some Try.t205), rfl, rfl, rfl, rfl⟩⟩
theorem fa205_0 : FieldAt Try.prog 205 0 0 := FieldAt.mk Try.underlying205 rfl rfl Try.sizeOf3 (by decide)
theorem fo205_0 : FieldOf Try.prog 205 0 0 1 false := ⟨_, _, Try.underlying205, rfl, rfl, Try.isAgg3, Try.sizeOf3⟩
theorem fa205_1 : FieldAt Try.prog 205 1 1 := FieldAt.mk Try.underlying205 rfl rfl Try.sizeOf3 (by decide)
theorem fo205_1 : FieldOf Try.prog 205 1 1 1 false := ⟨_, _, Try.underlying205, rfl, rfl, Try.isAgg3, Try.sizeOf3⟩
theorem fa205_2 : FieldAt Try.prog 205 2 2 := FieldAt.mk Try.underlying205 rfl rfl Try.sizeOf53 (by decide)
theorem fo205_2 : FieldOf Try.prog 205 2 2 3 true := ⟨_, _, Try.underlying205, rfl, rfl, Try.isAgg53, Try.sizeOf53⟩
theorem fa205_3 : FieldAt Try.prog 205 3 5 := FieldAt.mk Try.underlying205 rfl rfl Try.sizeOf4 (by decide)
theorem fo205_3 : FieldOf Try.prog 205 3 5 1 false := ⟨_, _, Try.underlying205, rfl, rfl, Try.isAgg4, Try.sizeOf4⟩
theorem pl205 : PlacesOf Try.prog 205 [(0, 1), (1, 1), (2, 3), (5, 1)] := ⟨_, Try.underlying205, fun _ => by kernel_rfl⟩
theorem ty209 : Ty Try.prog 209 4 32 [.int .u64 0, .int .u64 0, .int .u64 0, .int .u64 0] := ⟨⟨_, _, (by kernel_rfl : Try.prog.info? 209 = some Try.t209), rfl, rfl, rfl, rfl⟩⟩
theorem ty217 : Ty Try.prog 217 0 0 [] := ⟨⟨_, _, (by kernel_rfl : Try.prog.info? 217 = some Try.t217), rfl, rfl, rfl, rfl⟩⟩
theorem ty218 : Ty Try.prog 218 0 0 [] := ⟨⟨_, _, (by kernel_rfl : Try.prog.info? 218 = some Try.t218), rfl, rfl, rfl, rfl⟩⟩
theorem pl218 : PlacesOf Try.prog 218 [(0, 0)] := ⟨_, Try.underlying218, fun _ => by kernel_rfl⟩
theorem ty219 : Ty Try.prog 219 0 0 [] := ⟨⟨_, _, (by kernel_rfl : Try.prog.info? 219 = some Try.t219), rfl, rfl, rfl, rfl⟩⟩
theorem pl219 : PlacesOf Try.prog 219 [(0, 0)] := ⟨_, Try.underlying219, fun _ => by kernel_rfl⟩
theorem ty220 : Ty Try.prog 220 1 1 [.int .u8 0] := ⟨⟨_, _, (by kernel_rfl : Try.prog.info? 220 = some Try.t220), rfl, rfl, rfl, rfl⟩⟩
theorem ty221 : Ty Try.prog 221 1 1 [.int .u8 0] := ⟨⟨_, _, (by kernel_rfl : Try.prog.info? 221 = some Try.t221), rfl, rfl, rfl, rfl⟩⟩
theorem ty223 : Ty Try.prog 223 1 8 [.pointer none] := ⟨⟨_, _, (by kernel_rfl : Try.prog.info? 223 = some Try.t223), rfl, rfl, rfl, rfl⟩⟩
theorem ty224 : Ty Try.prog 224 1 4 [.int .i32 0] := ⟨⟨_, _, (by kernel_rfl : Try.prog.info? 224 = some Try.t224), rfl, rfl, rfl, rfl⟩⟩
theorem ty225 : Ty Try.prog 225 1 4 [.int .i32 0] := ⟨⟨_, _, (by kernel_rfl : Try.prog.info? 225 = some Try.t225), rfl, rfl, rfl, rfl⟩⟩
theorem ty228 : Ty Try.prog 228 6 32 [.bool false, .int .i32 0, .int .i64 0, .int .i64 0, .int .u8 0, .int .u8 0] := ⟨⟨_, _, (by kernel_rfl : Try.prog.info? 228 = some Try.t228), rfl, rfl, rfl, rfl⟩⟩
theorem fa228_0 : FieldAt Try.prog 228 0 0 := FieldAt.mk Try.underlying228 rfl rfl Try.sizeOf4 (by decide)
theorem fo228_0 : FieldOf Try.prog 228 0 0 1 false := ⟨_, _, Try.underlying228, rfl, rfl, Try.isAgg4, Try.sizeOf4⟩
theorem fa228_1 : FieldAt Try.prog 228 1 1 := FieldAt.mk Try.underlying228 rfl rfl Try.sizeOf21 (by decide)
theorem fo228_1 : FieldOf Try.prog 228 1 1 1 false := ⟨_, _, Try.underlying228, rfl, rfl, Try.isAgg21, Try.sizeOf21⟩
theorem fa228_2 : FieldAt Try.prog 228 2 2 := FieldAt.mk Try.underlying228 rfl rfl Try.sizeOf3 (by decide)
theorem fo228_2 : FieldOf Try.prog 228 2 2 1 false := ⟨_, _, Try.underlying228, rfl, rfl, Try.isAgg3, Try.sizeOf3⟩
theorem fa228_3 : FieldAt Try.prog 228 3 3 := FieldAt.mk Try.underlying228 rfl rfl Try.sizeOf3 (by decide)
theorem fo228_3 : FieldOf Try.prog 228 3 3 1 false := ⟨_, _, Try.underlying228, rfl, rfl, Try.isAgg3, Try.sizeOf3⟩
theorem fa228_4 : FieldAt Try.prog 228 4 4 := FieldAt.mk Try.underlying228 rfl rfl Try.sizeOf5 (by decide)
theorem fo228_4 : FieldOf Try.prog 228 4 4 1 false := ⟨_, _, Try.underlying228, rfl, rfl, Try.isAgg5, Try.sizeOf5⟩
theorem fa228_5 : FieldAt Try.prog 228 5 5 := FieldAt.mk Try.underlying228 rfl rfl Try.sizeOf5 (by decide)
theorem fo228_5 : FieldOf Try.prog 228 5 5 1 false := ⟨_, _, Try.underlying228, rfl, rfl, Try.isAgg5, Try.sizeOf5⟩
theorem pl228 : PlacesOf Try.prog 228 [(0, 1), (1, 1), (2, 1), (3, 1), (4, 1), (5, 1)] := ⟨_, Try.underlying228, fun _ => by kernel_rfl⟩
theorem ty229 : Ty Try.prog 229 6 32 [.bool false, .int .i32 0, .int .i64 0, .int .i64 0, .int .u8 0, .int .u8 0] := ⟨⟨_, _, (by kernel_rfl : Try.prog.info? 229 = some Try.t229), rfl, rfl, rfl, rfl⟩⟩
theorem fa229_0 : FieldAt Try.prog 229 0 0 := FieldAt.mk Try.underlying229 rfl rfl Try.sizeOf4 (by decide)
theorem fo229_0 : FieldOf Try.prog 229 0 0 1 false := ⟨_, _, Try.underlying229, rfl, rfl, Try.isAgg4, Try.sizeOf4⟩
theorem fa229_1 : FieldAt Try.prog 229 1 1 := FieldAt.mk Try.underlying229 rfl rfl Try.sizeOf21 (by decide)
theorem fo229_1 : FieldOf Try.prog 229 1 1 1 false := ⟨_, _, Try.underlying229, rfl, rfl, Try.isAgg21, Try.sizeOf21⟩
theorem fa229_2 : FieldAt Try.prog 229 2 2 := FieldAt.mk Try.underlying229 rfl rfl Try.sizeOf3 (by decide)
theorem fo229_2 : FieldOf Try.prog 229 2 2 1 false := ⟨_, _, Try.underlying229, rfl, rfl, Try.isAgg3, Try.sizeOf3⟩
theorem fa229_3 : FieldAt Try.prog 229 3 3 := FieldAt.mk Try.underlying229 rfl rfl Try.sizeOf3 (by decide)
theorem fo229_3 : FieldOf Try.prog 229 3 3 1 false := ⟨_, _, Try.underlying229, rfl, rfl, Try.isAgg3, Try.sizeOf3⟩
theorem fa229_4 : FieldAt Try.prog 229 4 4 := FieldAt.mk Try.underlying229 rfl rfl Try.sizeOf5 (by decide)
theorem fo229_4 : FieldOf Try.prog 229 4 4 1 false := ⟨_, _, Try.underlying229, rfl, rfl, Try.isAgg5, Try.sizeOf5⟩
theorem fa229_5 : FieldAt Try.prog 229 5 5 := FieldAt.mk Try.underlying229 rfl rfl Try.sizeOf5 (by decide)
theorem fo229_5 : FieldOf Try.prog 229 5 5 1 false := ⟨_, _, Try.underlying229, rfl, rfl, Try.isAgg5, Try.sizeOf5⟩
theorem pl229 : PlacesOf Try.prog 229 [(0, 1), (1, 1), (2, 1), (3, 1), (4, 1), (5, 1)] := ⟨_, Try.underlying229, fun _ => by kernel_rfl⟩
theorem ty230 : Ty Try.prog 230 7 56 [.int .i64 0, .int .i32 0, .int .u8 0, .int .u8 0, .int .u8 0, .slice none 0 0, .string ⟨#[]⟩] := ⟨⟨_, _, (by kernel_rfl : Try.prog.info? 230 = some Try.t230), rfl, rfl, rfl, rfl⟩⟩
theorem fa230_0 : FieldAt Try.prog 230 0 0 := FieldAt.mk Try.underlying230 rfl rfl Try.sizeOf3 (by decide)
theorem fo230_0 : FieldOf Try.prog 230 0 0 1 false := ⟨_, _, Try.underlying230, rfl, rfl, Try.isAgg3, Try.sizeOf3⟩
theorem fa230_1 : FieldAt Try.prog 230 1 1 := FieldAt.mk Try.underlying230 rfl rfl Try.sizeOf21 (by decide)
theorem fo230_1 : FieldOf Try.prog 230 1 1 1 false := ⟨_, _, Try.underlying230, rfl, rfl, Try.isAgg21, Try.sizeOf21⟩
theorem fa230_2 : FieldAt Try.prog 230 2 2 := FieldAt.mk Try.underlying230 rfl rfl Try.sizeOf5 (by decide)
theorem fo230_2 : FieldOf Try.prog 230 2 2 1 false := ⟨_, _, Try.underlying230, rfl, rfl, Try.isAgg5, Try.sizeOf5⟩
theorem fa230_3 : FieldAt Try.prog 230 3 3 := FieldAt.mk Try.underlying230 rfl rfl Try.sizeOf5 (by decide)
theorem fo230_3 : FieldOf Try.prog 230 3 3 1 false := ⟨_, _, Try.underlying230, rfl, rfl, Try.isAgg5, Try.sizeOf5⟩
theorem fa230_4 : FieldAt Try.prog 230 4 4 := FieldAt.mk Try.underlying230 rfl rfl Try.sizeOf5 (by decide)
theorem fo230_4 : FieldOf Try.prog 230 4 4 1 false := ⟨_, _, Try.underlying230, rfl, rfl, Try.isAgg5, Try.sizeOf5⟩
theorem fa230_5 : FieldAt Try.prog 230 5 5 := FieldAt.mk Try.underlying230 rfl rfl Try.sizeOf167 (by decide)
theorem fo230_5 : FieldOf Try.prog 230 5 5 1 false := ⟨_, _, Try.underlying230, rfl, rfl, Try.isAgg167, Try.sizeOf167⟩
theorem fa230_6 : FieldAt Try.prog 230 6 6 := FieldAt.mk Try.underlying230 rfl rfl Try.sizeOf9 (by decide)
theorem fo230_6 : FieldOf Try.prog 230 6 6 1 false := ⟨_, _, Try.underlying230, rfl, rfl, Try.isAgg9, Try.sizeOf9⟩
theorem pl230 : PlacesOf Try.prog 230 [(0, 1), (1, 1), (2, 1), (3, 1), (4, 1), (5, 1), (6, 1)] := ⟨_, Try.underlying230, fun _ => by kernel_rfl⟩
theorem ty231 : Ty Try.prog 231 7 56 [.int .i64 0, .int .i32 0, .int .u8 0, .int .u8 0, .int .u8 0, .slice none 0 0, .string ⟨#[]⟩] := ⟨⟨_, _, (by kernel_rfl : Try.prog.info? 231 = some Try.t231), rfl, rfl, rfl, rfl⟩⟩
theorem fa231_0 : FieldAt Try.prog 231 0 0 := FieldAt.mk Try.underlying231 rfl rfl Try.sizeOf3 (by decide)
theorem fo231_0 : FieldOf Try.prog 231 0 0 1 false := ⟨_, _, Try.underlying231, rfl, rfl, Try.isAgg3, Try.sizeOf3⟩
theorem fa231_1 : FieldAt Try.prog 231 1 1 := FieldAt.mk Try.underlying231 rfl rfl Try.sizeOf21 (by decide)
theorem fo231_1 : FieldOf Try.prog 231 1 1 1 false := ⟨_, _, Try.underlying231, rfl, rfl, Try.isAgg21, Try.sizeOf21⟩
theorem fa231_2 : FieldAt Try.prog 231 2 2 := FieldAt.mk Try.underlying231 rfl rfl Try.sizeOf5 (by decide)
theorem fo231_2 : FieldOf Try.prog 231 2 2 1 false := ⟨_, _, Try.underlying231, rfl, rfl, Try.isAgg5, Try.sizeOf5⟩
theorem fa231_3 : FieldAt Try.prog 231 3 3 := FieldAt.mk Try.underlying231 rfl rfl Try.sizeOf5 (by decide)
theorem fo231_3 : FieldOf Try.prog 231 3 3 1 false := ⟨_, _, Try.underlying231, rfl, rfl, Try.isAgg5, Try.sizeOf5⟩
theorem fa231_4 : FieldAt Try.prog 231 4 4 := FieldAt.mk Try.underlying231 rfl rfl Try.sizeOf5 (by decide)
theorem fo231_4 : FieldOf Try.prog 231 4 4 1 false := ⟨_, _, Try.underlying231, rfl, rfl, Try.isAgg5, Try.sizeOf5⟩
theorem fa231_5 : FieldAt Try.prog 231 5 5 := FieldAt.mk Try.underlying231 rfl rfl Try.sizeOf167 (by decide)
theorem fo231_5 : FieldOf Try.prog 231 5 5 1 false := ⟨_, _, Try.underlying231, rfl, rfl, Try.isAgg167, Try.sizeOf167⟩
theorem fa231_6 : FieldAt Try.prog 231 6 6 := FieldAt.mk Try.underlying231 rfl rfl Try.sizeOf9 (by decide)
theorem fo231_6 : FieldOf Try.prog 231 6 6 1 false := ⟨_, _, Try.underlying231, rfl, rfl, Try.isAgg9, Try.sizeOf9⟩
theorem pl231 : PlacesOf Try.prog 231 [(0, 1), (1, 1), (2, 1), (3, 1), (4, 1), (5, 1), (6, 1)] := ⟨_, Try.underlying231, fun _ => by kernel_rfl⟩
theorem ty232 : Ty Try.prog 232 1 24 [.slice none 0 0] := ⟨⟨_, _, (by kernel_rfl : Try.prog.info? 232 = some Try.t232), rfl, rfl, rfl, rfl⟩⟩
theorem ty233 : Ty Try.prog 233 1 24 [.slice none 0 0] := ⟨⟨_, _, (by kernel_rfl : Try.prog.info? 233 = some Try.t233), rfl, rfl, rfl, rfl⟩⟩
theorem ty234 : Ty Try.prog 234 14 128 [.bool false, .int .i64 0, .int .i64 0, .int .i32 0, .int .u8 0, .int .u8 0, .int .u8 0, .slice none 0 0, .string ⟨#[]⟩, .bool false, .bool false, .bool false, .slice none 0 0, .slice none 0 0] := ⟨⟨_, _, (by kernel_rfl : Try.prog.info? 234 = some Try.t234), rfl, rfl, rfl, rfl⟩⟩
theorem fa234_0 : FieldAt Try.prog 234 0 0 := FieldAt.mk Try.underlying234 rfl rfl Try.sizeOf4 (by decide)
theorem fo234_0 : FieldOf Try.prog 234 0 0 1 false := ⟨_, _, Try.underlying234, rfl, rfl, Try.isAgg4, Try.sizeOf4⟩
theorem fa234_1 : FieldAt Try.prog 234 1 1 := FieldAt.mk Try.underlying234 rfl rfl Try.sizeOf3 (by decide)
theorem fo234_1 : FieldOf Try.prog 234 1 1 1 false := ⟨_, _, Try.underlying234, rfl, rfl, Try.isAgg3, Try.sizeOf3⟩
theorem fa234_2 : FieldAt Try.prog 234 2 2 := FieldAt.mk Try.underlying234 rfl rfl Try.sizeOf231 (by decide)
theorem fo234_2 : FieldOf Try.prog 234 2 2 7 true := ⟨_, _, Try.underlying234, rfl, rfl, Try.isAgg231, Try.sizeOf231⟩
theorem fa234_3 : FieldAt Try.prog 234 3 9 := FieldAt.mk Try.underlying234 rfl rfl Try.sizeOf4 (by decide)
theorem fo234_3 : FieldOf Try.prog 234 3 9 1 false := ⟨_, _, Try.underlying234, rfl, rfl, Try.isAgg4, Try.sizeOf4⟩
theorem fa234_4 : FieldAt Try.prog 234 4 10 := FieldAt.mk Try.underlying234 rfl rfl Try.sizeOf4 (by decide)
theorem fo234_4 : FieldOf Try.prog 234 4 10 1 false := ⟨_, _, Try.underlying234, rfl, rfl, Try.isAgg4, Try.sizeOf4⟩
theorem fa234_5 : FieldAt Try.prog 234 5 11 := FieldAt.mk Try.underlying234 rfl rfl Try.sizeOf4 (by decide)
theorem fo234_5 : FieldOf Try.prog 234 5 11 1 false := ⟨_, _, Try.underlying234, rfl, rfl, Try.isAgg4, Try.sizeOf4⟩
theorem fa234_6 : FieldAt Try.prog 234 6 12 := FieldAt.mk Try.underlying234 rfl rfl Try.sizeOf232 (by decide)
theorem fo234_6 : FieldOf Try.prog 234 6 12 1 false := ⟨_, _, Try.underlying234, rfl, rfl, Try.isAgg232, Try.sizeOf232⟩
theorem fa234_7 : FieldAt Try.prog 234 7 13 := FieldAt.mk Try.underlying234 rfl rfl Try.sizeOf233 (by decide)
theorem fo234_7 : FieldOf Try.prog 234 7 13 1 false := ⟨_, _, Try.underlying234, rfl, rfl, Try.isAgg233, Try.sizeOf233⟩
theorem pl234 : PlacesOf Try.prog 234 [(0, 1), (1, 1), (2, 7), (9, 1), (10, 1), (11, 1), (12, 1), (13, 1)] := ⟨_, Try.underlying234, fun _ => by kernel_rfl⟩
theorem ty235 : Ty Try.prog 235 14 128 [.bool false, .int .i64 0, .int .i64 0, .int .i32 0, .int .u8 0, .int .u8 0, .int .u8 0, .slice none 0 0, .string ⟨#[]⟩, .bool false, .bool false, .bool false, .slice none 0 0, .slice none 0 0] := ⟨⟨_, _, (by kernel_rfl : Try.prog.info? 235 = some Try.t235), rfl, rfl, rfl, rfl⟩⟩
theorem fa235_0 : FieldAt Try.prog 235 0 0 := FieldAt.mk Try.underlying235 rfl rfl Try.sizeOf4 (by decide)
theorem fo235_0 : FieldOf Try.prog 235 0 0 1 false := ⟨_, _, Try.underlying235, rfl, rfl, Try.isAgg4, Try.sizeOf4⟩
theorem fa235_1 : FieldAt Try.prog 235 1 1 := FieldAt.mk Try.underlying235 rfl rfl Try.sizeOf3 (by decide)
theorem fo235_1 : FieldOf Try.prog 235 1 1 1 false := ⟨_, _, Try.underlying235, rfl, rfl, Try.isAgg3, Try.sizeOf3⟩
theorem fa235_2 : FieldAt Try.prog 235 2 2 := FieldAt.mk Try.underlying235 rfl rfl Try.sizeOf231 (by decide)
theorem fo235_2 : FieldOf Try.prog 235 2 2 7 true := ⟨_, _, Try.underlying235, rfl, rfl, Try.isAgg231, Try.sizeOf231⟩
theorem fa235_3 : FieldAt Try.prog 235 3 9 := FieldAt.mk Try.underlying235 rfl rfl Try.sizeOf4 (by decide)
theorem fo235_3 : FieldOf Try.prog 235 3 9 1 false := ⟨_, _, Try.underlying235, rfl, rfl, Try.isAgg4, Try.sizeOf4⟩
theorem fa235_4 : FieldAt Try.prog 235 4 10 := FieldAt.mk Try.underlying235 rfl rfl Try.sizeOf4 (by decide)
theorem fo235_4 : FieldOf Try.prog 235 4 10 1 false := ⟨_, _, Try.underlying235, rfl, rfl, Try.isAgg4, Try.sizeOf4⟩
theorem fa235_5 : FieldAt Try.prog 235 5 11 := FieldAt.mk Try.underlying235 rfl rfl Try.sizeOf4 (by decide)
theorem fo235_5 : FieldOf Try.prog 235 5 11 1 false := ⟨_, _, Try.underlying235, rfl, rfl, Try.isAgg4, Try.sizeOf4⟩
theorem fa235_6 : FieldAt Try.prog 235 6 12 := FieldAt.mk Try.underlying235 rfl rfl Try.sizeOf232 (by decide)
theorem fo235_6 : FieldOf Try.prog 235 6 12 1 false := ⟨_, _, Try.underlying235, rfl, rfl, Try.isAgg232, Try.sizeOf232⟩
theorem fa235_7 : FieldAt Try.prog 235 7 13 := FieldAt.mk Try.underlying235 rfl rfl Try.sizeOf233 (by decide)
theorem fo235_7 : FieldOf Try.prog 235 7 13 1 false := ⟨_, _, Try.underlying235, rfl, rfl, Try.isAgg233, Try.sizeOf233⟩
theorem pl235 : PlacesOf Try.prog 235 [(0, 1), (1, 1), (2, 7), (9, 1), (10, 1), (11, 1), (12, 1), (13, 1)] := ⟨_, Try.underlying235, fun _ => by kernel_rfl⟩
end Go.Proofs.Ytijjjdljdjnbaaa
end
