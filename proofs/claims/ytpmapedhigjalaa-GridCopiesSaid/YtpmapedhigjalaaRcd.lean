/- QNca: Cell, Close, OpenV, Slices, GriA, GriB, GriC, GriU, GriD, GriE, GriF, GriG, GriH, GriV, GriI, GriJ, GriK, GriL, GriM, GriO, GriP. -/
import Derived.WalkKit
import Derived.ProofKit
import Derived.OpenShut
import Derived.Carry
import Derived.Deep.Slices
import Derived.Test.YtpmapedhigjalaaRca
import Derived.Test.YtpmapedhigjalaaRcb
import Derived.Test.YtpmapedhigjalaaRcc
section
/- A cell and a style, and the document's. -/
namespace Go.Proofs.Ytpmapedhigjalaa
set_option maxRecDepth 100000
set_option linter.unusedVariables false
set_option linter.unusedSimpArgs false
open Go.Sx

theorem bool_eq {a b : Bool} (h : a = true ↔ b = true) : Value.bool a = Value.bool b := by
  congr 1; cases a <;> cases b <;> simp_all
structure Cell where
  pt : Int
  fl : Int
  fg : Int
  bg : Int
  deriving DecidableEq, Inhabited
def Cell.enc (c : Cell) : List Value := [.int .i32 c.pt, .int .u8 c.fl, .int .u32 c.fg, .int .u32 c.bg]
/-- what a cell's memory may hold -/
def Cell.In (c : Cell) : Prop := 0 ≤ c.fl ∧ c.fl < 256 ∧ 0 ≤ c.fg ∧ c.fg < 4294967296 ∧ 0 ≤ c.bg ∧ c.bg < 4294967296
def bit8 (fl : Int) (i : Nat) : Bool := decide (fl / 2 ^ i % 2 = 1)
/-- a style as the document's -/
def rsty (fl fg bg : Int) : List Value := [.bool (bit8 fl 0), .bool (bit8 fl 1), .bool (bit8 fl 2), .bool (bit8 fl 3), .bool (bit8 fl 4), .bool (bit8 fl 5), .bool (bit8 fl 6), .bool (bit8 fl 7), .int .u32 fg, .int .u32 bg]
def ofC (fl : Int) (k : Nat) (fg bg : Int) : List Value := (List.range 8).map (fun j => .bool (if j < k then bit8 fl j else false)) ++ [.int .u32 fg, .int .u32 bg]
theorem rof_ok (E : Env) (fl fg bg : Int) (h0 : 0 ≤ fl) (h1 : fl < 256) : Does Try.prog 110 #[.int .u8 fl, .int .u32 fg, .int .u32 bg] E [] fun r H' => r = .agg (rsty fl fg bg).toArray ∧ H' = [] := by
  refine Does.go (args := [.int .u8 fl, .int .u32 fg, .int .u32 bg]) _ _ Try.func110 rfl Try.ntmps110 rfl rfl ?_
  refine Body.seq ?_
  refine Body.region ?_
  refine Ops.s (Stp.alloc ty47 (fun b6 => ?_)) rfl
  refine Ops.nil ?_
  refine Then.next ?_
  refine Body.seq ?_
  refine Body.region ?_
  refine Ops.u (Dtu.mv (lk rfl)) rfl ?_
  refine Ops.u (Dtu.mv (lk rfl)) rfl ?_
  refine Ops.u (Dtu.build ty47 pl47 (lkp rfl) rfl rfl) rfl ?_
  refine Ops.s (Stp.alloc ty47 (fun b7 => ?_)) rfl
  refine Ops.e (Stp.store 0 Try.sizeOf47 (lk rfl) (lk rfl) rfl rfl rfl rfl rfl rfl rfl ?_)
  refine Ops.nil ?_
  refine Then.next ?_
  refine Body.seq ?_
  refine Body.seq ?_
  refine Body.region ?_
  refine Ops.u (Dtu.asg (lk rfl)) rfl ?_
  refine Ops.nil ?_
  refine Then.next ?_
  refine Body.block ?_
  refine Body.loopF (γ := Nat) rfl (fun i => [(8, .int .i64 i), (0, .int .u8 (fl / 2 ^ i))]) (fun i => [own b7 (ofC fl i fg bg) 47, own b6 (ofC 0 0 0 0) 47]) (fun i => i ≤ 8) (fun i => 8 - i) 0 (by omega) ⟨rfl, int_eq (by simp), trivial⟩ rfl ?_
  rintro i u hi
  refine Body.seq ?_
  refine Body.seq ?_
  refine Body.region ?_
  refine Ops.u (Dtu.mv (lk rfl)) rfl ?_
  refine Ops.u (Dtu.lss (lk rfl) (lk rfl)) rfl ?_
  refine Ops.nil ?_
  refine Then.next ?_
  refine Body.condP (lk rfl) (fun c13 => ?_) (fun c13 => ?_)
  · have hq : 0 ≤ fl / 2 ^ i := Int.ediv_nonneg h0 (Int.pow_nonneg (by omega))
    have hq2 : fl / 2 ^ i ≤ fl := Int.ediv_le_self _ h0
    have hm : (fl / 2 ^ i).tmod 2 = fl / 2 ^ i % 2 := Int.tmod_eq_emod_of_nonneg hq
    have hd : (fl / 2 ^ i).tdiv 2 = fl / 2 ^ (i + 1) := by
      rw [Int.tdiv_eq_ediv_of_nonneg hq, Int.pow_succ, ← Int.ediv_ediv_of_nonneg (Int.pow_nonneg (by omega))]
    obtain rfl | rfl | rfl | rfl | rfl | rfl | rfl | rfl : i = 0 ∨ i = 1 ∨ i = 2 ∨ i = 3 ∨ i = 4 ∨ i = 5 ∨ i = 6 ∨ i = 7 := by omega
    · refine Body.skip ?_
      refine Then.next ?_
      refine Body.seq ?_
      refine Body.block ?_
      refine Body.seq ?_
      refine Body.region ?_
      refine Ops.u (Dtu.mv (lk rfl)) rfl ?_
      refine Ops.u (Dtu.mv (lk rfl)) rfl ?_
      refine Ops.u (Dtu.rem (lk rfl) (lk rfl) (by first | decide | omega) (by with_reducible assumption)) rfl ?_
      refine Ops.u (Dtu.eql (lk rfl) (lk rfl)) rfl ?_
      refine Ops.u (Dtu.fld fa47_0 (lk rfl)) rfl ?_
      refine Ops.u (Dtu.ixa (i := 0) Try.underlying45 Try.sizeOf4 (lk rfl) (lk rfl) (by omega) (by omega)) rfl ?_
      refine Ops.e (Stp.store 0 Try.sizeOf4 (lk rfl) (lk rfl) rfl rfl rfl rfl rfl rfl rfl ?_)
      refine Ops.nil ?_
      refine Then.next ?_
      refine Body.region ?_
      refine Ops.u (Dtu.mv (lk rfl)) rfl ?_
      refine Ops.u (Dtu.quo (lk rfl) (lk rfl) (by first | decide | omega) (wu8 (by omega) (by omega))) rfl ?_
      refine Ops.u (Dtu.asg (lk rfl)) rfl ?_
      refine Ops.nil ?_
      refine Blk.norm ?_
      refine Then.next ?_
      refine Body.region ?_
      refine Ops.u (Dtu.mv (lk rfl)) rfl ?_
      refine Ops.u (Dtu.add (lk rfl) (lk rfl) (w64 (by omega) (by omega))) rfl ?_
      refine Ops.u (Dtu.asg (lk rfl)) rfl ?_
      refine Ops.nil ?_
      exact Round.goF 1 rfl rfl rfl ⟨rfl, int_eq hd, trivial⟩ (by first | rfl | (rw [hm]; rfl)) (by decide) (by decide)
    · refine Body.skip ?_
      refine Then.next ?_
      refine Body.seq ?_
      refine Body.block ?_
      refine Body.seq ?_
      refine Body.region ?_
      refine Ops.u (Dtu.mv (lk rfl)) rfl ?_
      refine Ops.u (Dtu.mv (lk rfl)) rfl ?_
      refine Ops.u (Dtu.rem (lk rfl) (lk rfl) (by first | decide | omega) (by with_reducible assumption)) rfl ?_
      refine Ops.u (Dtu.eql (lk rfl) (lk rfl)) rfl ?_
      refine Ops.u (Dtu.fld fa47_0 (lk rfl)) rfl ?_
      refine Ops.u (Dtu.ixa (i := 1) Try.underlying45 Try.sizeOf4 (lk rfl) (lk rfl) (by omega) (by omega)) rfl ?_
      refine Ops.e (Stp.store 0 Try.sizeOf4 (lk rfl) (lk rfl) rfl rfl rfl rfl rfl rfl rfl ?_)
      refine Ops.nil ?_
      refine Then.next ?_
      refine Body.region ?_
      refine Ops.u (Dtu.mv (lk rfl)) rfl ?_
      refine Ops.u (Dtu.quo (lk rfl) (lk rfl) (by first | decide | omega) (wu8 (by omega) (by omega))) rfl ?_
      refine Ops.u (Dtu.asg (lk rfl)) rfl ?_
      refine Ops.nil ?_
      refine Blk.norm ?_
      refine Then.next ?_
      refine Body.region ?_
      refine Ops.u (Dtu.mv (lk rfl)) rfl ?_
      refine Ops.u (Dtu.add (lk rfl) (lk rfl) (w64 (by omega) (by omega))) rfl ?_
      refine Ops.u (Dtu.asg (lk rfl)) rfl ?_
      refine Ops.nil ?_
      exact Round.goF 2 rfl rfl rfl ⟨rfl, int_eq hd, trivial⟩ (by first | rfl | (rw [hm]; rfl)) (by decide) (by decide)
    · refine Body.skip ?_
      refine Then.next ?_
      refine Body.seq ?_
      refine Body.block ?_
      refine Body.seq ?_
      refine Body.region ?_
      refine Ops.u (Dtu.mv (lk rfl)) rfl ?_
      refine Ops.u (Dtu.mv (lk rfl)) rfl ?_
      refine Ops.u (Dtu.rem (lk rfl) (lk rfl) (by first | decide | omega) (by with_reducible assumption)) rfl ?_
      refine Ops.u (Dtu.eql (lk rfl) (lk rfl)) rfl ?_
      refine Ops.u (Dtu.fld fa47_0 (lk rfl)) rfl ?_
      refine Ops.u (Dtu.ixa (i := 2) Try.underlying45 Try.sizeOf4 (lk rfl) (lk rfl) (by omega) (by omega)) rfl ?_
      refine Ops.e (Stp.store 0 Try.sizeOf4 (lk rfl) (lk rfl) rfl rfl rfl rfl rfl rfl rfl ?_)
      refine Ops.nil ?_
      refine Then.next ?_
      refine Body.region ?_
      refine Ops.u (Dtu.mv (lk rfl)) rfl ?_
      refine Ops.u (Dtu.quo (lk rfl) (lk rfl) (by first | decide | omega) (wu8 (by omega) (by omega))) rfl ?_
      refine Ops.u (Dtu.asg (lk rfl)) rfl ?_
      refine Ops.nil ?_
      refine Blk.norm ?_
      refine Then.next ?_
      refine Body.region ?_
      refine Ops.u (Dtu.mv (lk rfl)) rfl ?_
      refine Ops.u (Dtu.add (lk rfl) (lk rfl) (w64 (by omega) (by omega))) rfl ?_
      refine Ops.u (Dtu.asg (lk rfl)) rfl ?_
      refine Ops.nil ?_
      exact Round.goF 3 rfl rfl rfl ⟨rfl, int_eq hd, trivial⟩ (by first | rfl | (rw [hm]; rfl)) (by decide) (by decide)
    · refine Body.skip ?_
      refine Then.next ?_
      refine Body.seq ?_
      refine Body.block ?_
      refine Body.seq ?_
      refine Body.region ?_
      refine Ops.u (Dtu.mv (lk rfl)) rfl ?_
      refine Ops.u (Dtu.mv (lk rfl)) rfl ?_
      refine Ops.u (Dtu.rem (lk rfl) (lk rfl) (by first | decide | omega) (by with_reducible assumption)) rfl ?_
      refine Ops.u (Dtu.eql (lk rfl) (lk rfl)) rfl ?_
      refine Ops.u (Dtu.fld fa47_0 (lk rfl)) rfl ?_
      refine Ops.u (Dtu.ixa (i := 3) Try.underlying45 Try.sizeOf4 (lk rfl) (lk rfl) (by omega) (by omega)) rfl ?_
      refine Ops.e (Stp.store 0 Try.sizeOf4 (lk rfl) (lk rfl) rfl rfl rfl rfl rfl rfl rfl ?_)
      refine Ops.nil ?_
      refine Then.next ?_
      refine Body.region ?_
      refine Ops.u (Dtu.mv (lk rfl)) rfl ?_
      refine Ops.u (Dtu.quo (lk rfl) (lk rfl) (by first | decide | omega) (wu8 (by omega) (by omega))) rfl ?_
      refine Ops.u (Dtu.asg (lk rfl)) rfl ?_
      refine Ops.nil ?_
      refine Blk.norm ?_
      refine Then.next ?_
      refine Body.region ?_
      refine Ops.u (Dtu.mv (lk rfl)) rfl ?_
      refine Ops.u (Dtu.add (lk rfl) (lk rfl) (w64 (by omega) (by omega))) rfl ?_
      refine Ops.u (Dtu.asg (lk rfl)) rfl ?_
      refine Ops.nil ?_
      exact Round.goF 4 rfl rfl rfl ⟨rfl, int_eq hd, trivial⟩ (by first | rfl | (rw [hm]; rfl)) (by decide) (by decide)
    · refine Body.skip ?_
      refine Then.next ?_
      refine Body.seq ?_
      refine Body.block ?_
      refine Body.seq ?_
      refine Body.region ?_
      refine Ops.u (Dtu.mv (lk rfl)) rfl ?_
      refine Ops.u (Dtu.mv (lk rfl)) rfl ?_
      refine Ops.u (Dtu.rem (lk rfl) (lk rfl) (by first | decide | omega) (by with_reducible assumption)) rfl ?_
      refine Ops.u (Dtu.eql (lk rfl) (lk rfl)) rfl ?_
      refine Ops.u (Dtu.fld fa47_0 (lk rfl)) rfl ?_
      refine Ops.u (Dtu.ixa (i := 4) Try.underlying45 Try.sizeOf4 (lk rfl) (lk rfl) (by omega) (by omega)) rfl ?_
      refine Ops.e (Stp.store 0 Try.sizeOf4 (lk rfl) (lk rfl) rfl rfl rfl rfl rfl rfl rfl ?_)
      refine Ops.nil ?_
      refine Then.next ?_
      refine Body.region ?_
      refine Ops.u (Dtu.mv (lk rfl)) rfl ?_
      refine Ops.u (Dtu.quo (lk rfl) (lk rfl) (by first | decide | omega) (wu8 (by omega) (by omega))) rfl ?_
      refine Ops.u (Dtu.asg (lk rfl)) rfl ?_
      refine Ops.nil ?_
      refine Blk.norm ?_
      refine Then.next ?_
      refine Body.region ?_
      refine Ops.u (Dtu.mv (lk rfl)) rfl ?_
      refine Ops.u (Dtu.add (lk rfl) (lk rfl) (w64 (by omega) (by omega))) rfl ?_
      refine Ops.u (Dtu.asg (lk rfl)) rfl ?_
      refine Ops.nil ?_
      exact Round.goF 5 rfl rfl rfl ⟨rfl, int_eq hd, trivial⟩ (by first | rfl | (rw [hm]; rfl)) (by decide) (by decide)
    · refine Body.skip ?_
      refine Then.next ?_
      refine Body.seq ?_
      refine Body.block ?_
      refine Body.seq ?_
      refine Body.region ?_
      refine Ops.u (Dtu.mv (lk rfl)) rfl ?_
      refine Ops.u (Dtu.mv (lk rfl)) rfl ?_
      refine Ops.u (Dtu.rem (lk rfl) (lk rfl) (by first | decide | omega) (by with_reducible assumption)) rfl ?_
      refine Ops.u (Dtu.eql (lk rfl) (lk rfl)) rfl ?_
      refine Ops.u (Dtu.fld fa47_0 (lk rfl)) rfl ?_
      refine Ops.u (Dtu.ixa (i := 5) Try.underlying45 Try.sizeOf4 (lk rfl) (lk rfl) (by omega) (by omega)) rfl ?_
      refine Ops.e (Stp.store 0 Try.sizeOf4 (lk rfl) (lk rfl) rfl rfl rfl rfl rfl rfl rfl ?_)
      refine Ops.nil ?_
      refine Then.next ?_
      refine Body.region ?_
      refine Ops.u (Dtu.mv (lk rfl)) rfl ?_
      refine Ops.u (Dtu.quo (lk rfl) (lk rfl) (by first | decide | omega) (wu8 (by omega) (by omega))) rfl ?_
      refine Ops.u (Dtu.asg (lk rfl)) rfl ?_
      refine Ops.nil ?_
      refine Blk.norm ?_
      refine Then.next ?_
      refine Body.region ?_
      refine Ops.u (Dtu.mv (lk rfl)) rfl ?_
      refine Ops.u (Dtu.add (lk rfl) (lk rfl) (w64 (by omega) (by omega))) rfl ?_
      refine Ops.u (Dtu.asg (lk rfl)) rfl ?_
      refine Ops.nil ?_
      exact Round.goF 6 rfl rfl rfl ⟨rfl, int_eq hd, trivial⟩ (by first | rfl | (rw [hm]; rfl)) (by decide) (by decide)
    · refine Body.skip ?_
      refine Then.next ?_
      refine Body.seq ?_
      refine Body.block ?_
      refine Body.seq ?_
      refine Body.region ?_
      refine Ops.u (Dtu.mv (lk rfl)) rfl ?_
      refine Ops.u (Dtu.mv (lk rfl)) rfl ?_
      refine Ops.u (Dtu.rem (lk rfl) (lk rfl) (by first | decide | omega) (by with_reducible assumption)) rfl ?_
      refine Ops.u (Dtu.eql (lk rfl) (lk rfl)) rfl ?_
      refine Ops.u (Dtu.fld fa47_0 (lk rfl)) rfl ?_
      refine Ops.u (Dtu.ixa (i := 6) Try.underlying45 Try.sizeOf4 (lk rfl) (lk rfl) (by omega) (by omega)) rfl ?_
      refine Ops.e (Stp.store 0 Try.sizeOf4 (lk rfl) (lk rfl) rfl rfl rfl rfl rfl rfl rfl ?_)
      refine Ops.nil ?_
      refine Then.next ?_
      refine Body.region ?_
      refine Ops.u (Dtu.mv (lk rfl)) rfl ?_
      refine Ops.u (Dtu.quo (lk rfl) (lk rfl) (by first | decide | omega) (wu8 (by omega) (by omega))) rfl ?_
      refine Ops.u (Dtu.asg (lk rfl)) rfl ?_
      refine Ops.nil ?_
      refine Blk.norm ?_
      refine Then.next ?_
      refine Body.region ?_
      refine Ops.u (Dtu.mv (lk rfl)) rfl ?_
      refine Ops.u (Dtu.add (lk rfl) (lk rfl) (w64 (by omega) (by omega))) rfl ?_
      refine Ops.u (Dtu.asg (lk rfl)) rfl ?_
      refine Ops.nil ?_
      exact Round.goF 7 rfl rfl rfl ⟨rfl, int_eq hd, trivial⟩ (by first | rfl | (rw [hm]; rfl)) (by decide) (by decide)
    · refine Body.skip ?_
      refine Then.next ?_
      refine Body.seq ?_
      refine Body.block ?_
      refine Body.seq ?_
      refine Body.region ?_
      refine Ops.u (Dtu.mv (lk rfl)) rfl ?_
      refine Ops.u (Dtu.mv (lk rfl)) rfl ?_
      refine Ops.u (Dtu.rem (lk rfl) (lk rfl) (by first | decide | omega) (by with_reducible assumption)) rfl ?_
      refine Ops.u (Dtu.eql (lk rfl) (lk rfl)) rfl ?_
      refine Ops.u (Dtu.fld fa47_0 (lk rfl)) rfl ?_
      refine Ops.u (Dtu.ixa (i := 7) Try.underlying45 Try.sizeOf4 (lk rfl) (lk rfl) (by omega) (by omega)) rfl ?_
      refine Ops.e (Stp.store 0 Try.sizeOf4 (lk rfl) (lk rfl) rfl rfl rfl rfl rfl rfl rfl ?_)
      refine Ops.nil ?_
      refine Then.next ?_
      refine Body.region ?_
      refine Ops.u (Dtu.mv (lk rfl)) rfl ?_
      refine Ops.u (Dtu.quo (lk rfl) (lk rfl) (by first | decide | omega) (wu8 (by omega) (by omega))) rfl ?_
      refine Ops.u (Dtu.asg (lk rfl)) rfl ?_
      refine Ops.nil ?_
      refine Blk.norm ?_
      refine Then.next ?_
      refine Body.region ?_
      refine Ops.u (Dtu.mv (lk rfl)) rfl ?_
      refine Ops.u (Dtu.add (lk rfl) (lk rfl) (w64 (by omega) (by omega))) rfl ?_
      refine Ops.u (Dtu.asg (lk rfl)) rfl ?_
      refine Ops.nil ?_
      exact Round.goF 8 rfl rfl rfl ⟨rfl, int_eq hd, trivial⟩ (by first | rfl | (rw [hm]; rfl)) (by decide) (by decide)
  · refine Body.exit ?_
    refine Then.exit ?_
    refine Round.exit ?_
    refine Blk.here ?_
    refine Then.next ?_
    refine Body.seq ?_
    refine Body.region ?_
    refine Ops.d (Det.lda Try.isAgg47 Try.sizeOf47 (lk rfl) (Rds.ow (m := 10) 0 rfl rfl) rfl) rfl ?_
    refine Ops.e (Stp.store 1 Try.sizeOf47 (lk rfl) (lk rfl) rfl rfl rfl rfl rfl rfl rfl ?_)
    refine Ops.nil ?_
    refine Then.next ?_
    refine Body.ret ?_
    obtain rfl : i = 8 := by omega
    exact ⟨.inr rfl, _, Loads.agg Try.isAgg47 Try.sizeOf47 (Rds.ow (m := 10) 1 rfl rfl) rfl, _, pk [] rfl, rfl, rfl⟩
def Cell.rsty (c : Cell) : List Value := Go.Proofs.Ytpmapedhigjalaa.rsty c.fl c.fg c.bg
def Cell.renc (c : Cell) : List Value := .int .i32 c.pt :: Go.Proofs.Ytpmapedhigjalaa.rsty c.fl c.fg c.bg
theorem as16_ok (E : Env) (fl fg bg : Int) (h0 : 0 ≤ fl) (h1 : fl < 256) : Does Try.prog 81 #[.agg #[.int .u8 fl, .int .u32 fg, .int .u32 bg]] E [] fun r H' => r = .agg #[.bool (bit8 fl 0), .bool (bit8 fl 1), .bool (bit8 fl 2), .bool (bit8 fl 3), .bool (bit8 fl 4), .bool (bit8 fl 5), .bool (bit8 fl 6), .bool (bit8 fl 7), .int .u32 fg, .int .u32 bg] ∧ H' = [] := by
  refine Does.go (args := [.agg #[.int .u8 fl, .int .u32 fg, .int .u32 bg]]) _ _ Try.func81 rfl Try.ntmps81 rfl rfl ?_
  refine Body.seq ?_
  refine Body.region ?_
  refine Ops.s (Stp.box (lk rfl) rfl (fun b1 => ?_)) rfl
  refine Ops.s (Stp.alloc ty47 (fun b2 => ?_)) rfl
  refine Ops.nil ?_
  refine Then.next ?_
  refine Body.seq ?_
  refine Body.region ?_
  refine Ops.u (Dtu.fld fa37_0 (lk rfl)) rfl ?_
  refine Ops.d (Det.ld Try.isAgg5 (lk rfl) (Rd.ow 1 rfl rfl)) rfl ?_
  refine Ops.u (Dtu.fld fa37_1 (lk rfl)) rfl ?_
  refine Ops.d (Det.ld Try.isAgg35 (lk rfl) (Rd.ow 1 rfl rfl)) rfl ?_
  refine Ops.u (Dtu.fld fa37_2 (lk rfl)) rfl ?_
  refine Ops.d (Det.ld Try.isAgg35 (lk rfl) (Rd.ow 1 rfl rfl)) rfl ?_
  refine Ops.s (Stp.call rfl Try.call110 (lks rfl) (fun E' le hat => rof_ok E' _ _ _ (by first | assumption | omega) (by first | assumption | omega)) ?_) rfl
  rintro _ _ ⟨rfl, rfl⟩
  refine Ops.e (Stp.store 0 Try.sizeOf47 (lk rfl) (lk rfl) rfl rfl rfl rfl rfl rfl rfl ?_)
  refine Ops.nil ?_
  refine Then.next ?_
  refine Body.ret ?_
  exact ⟨.inr rfl, _, Loads.agg Try.isAgg47 Try.sizeOf47 (Rds.ow (m := 10) 0 rfl rfl) rfl, _, pk [] rfl, rfl, rfl⟩
theorem cell17_ok (E : Env) (pt fl fg bg : Int) (h0 : 0 ≤ fl) (h1 : fl < 256) : Does Try.prog 18 #[.agg #[.int .i32 pt, .int .u8 fl, .int .u32 fg, .int .u32 bg]] E [] fun r H' => r = .agg (.int .i32 pt :: rsty fl fg bg).toArray ∧ H' = [] := by
  refine Does.go (args := [.agg #[.int .i32 pt, .int .u8 fl, .int .u32 fg, .int .u32 bg]]) _ _ Try.func18 rfl Try.ntmps18 rfl rfl ?_
  refine Body.seq ?_
  refine Body.region ?_
  refine Ops.s (Stp.box (lk rfl) rfl (fun b1 => ?_)) rfl
  refine Ops.s (Stp.alloc ty49 (fun b2 => ?_)) rfl
  refine Ops.nil ?_
  refine Then.next ?_
  refine Body.seq ?_
  refine Body.draw mixed ?_
  refine AB.u 0 rfl (by decide +kernel) (Dtu.fld fa39_0 (lk rfl)) rfl ?_
  refine AB.d 1 rfl (by decide +kernel) rfl (Det.ld Try.isAgg21 (lk rfl) (Rd.ow 1 rfl rfl)) rfl ?_
  refine AB.u 2 rfl (by decide +kernel) (Dtu.fld fa39_1 (lk rfl)) rfl ?_
  refine AB.d 3 rfl (by decide +kernel) rfl (Det.lda Try.isAgg37 Try.sizeOf37 (lk rfl) (Rds.ow (m := 3) 1 rfl rfl) rfl) rfl ?_
  refine AB.s 4 rfl (by decide +kernel) (by decide +kernel) (Stp.call rfl Try.call81 (lks rfl) (fun E' le hat => as16_ok E' _ _ _ (by first | assumption | omega) (by first | assumption | omega)) ?_) rfl
  rintro _ _ ⟨rfl, rfl⟩
  refine AB.u 5 rfl (by decide +kernel) (Dtu.build ty49 pl49 (lkp rfl) rfl rfl) rfl ?_
  refine AB.e 6 rfl (by decide +kernel) (by decide +kernel) (Stp.store 0 Try.sizeOf49 (lk rfl) (lk rfl) rfl rfl rfl rfl rfl rfl rfl ?_)
  refine AB.done (by decide +kernel) ?_
  refine Then.next ?_
  refine Body.ret ?_
  exact ⟨.inr rfl, _, Loads.agg Try.isAgg49 Try.sizeOf49 (Rds.ow (m := 11) 0 rfl rfl) rfl, _, pk [] rfl, rfl, rfl⟩
end Go.Proofs.Ytpmapedhigjalaa
end
section
/- From a contract to the statement's conclusion: a call that writes nothing of what was there, and returns true. -/
namespace Go.Proofs.Ytpmapedhigjalaa
set_option linter.unusedVariables false
open Go.Sx Go.ChangeShapes Go.RowKit Go.WideShapes Go.ChangeAt

theorem below_of_St {W W' : World} {H : List HProp} (s : St (envOf W) H W') : Below W.heap.size W W' where
  os := s.os
  tape := s.tape
  output := s.output
  block := fun k hk => by
    have h : W.heap[k]? = some W.heap[k] := Array.getElem?_eq_getElem hk
    have := s.keep k _ h
    rw [h]; exact this
  size := by
    by_cases h0 : W.heap.size = 0
    · omega
    · have hk : W.heap.size - 1 < W.heap.size := by omega
      have h : W.heap[W.heap.size - 1]? = some W.heap[W.heap.size - 1] := Array.getElem?_eq_getElem hk
      have h2 : W'.heap[W.heap.size - 1]? = some W.heap[W.heap.size - 1] := s.keep _ _ h
      have := (Array.getElem?_eq_some_iff.1 h2).1
      omega
section
variable {H : Type} {enc : TypeId × Value → H} {P : Program}
theorem trodAll_below (hl : laidOutB P = true) {W W' : World} (hb : Below W.heap.size W W') (sp : Nat → Bool) : ∀ {ts : List TypeId} {vs : List Value} {ds : List (DataW H)} {ps : List MemPlace},
    (∀ t ∈ ts, P.readableRec t = true ∧ t < P.types.size) → DataW.TrodAll enc P W 0 (fun _ => true) true ts vs ds ps → (∀ x ∈ ps, x.block < W.heap.size) → (∀ x ∈ ps, sp x.block = true) → DataW.TrodAll enc P W' 0 sp true ts vs ds ps
  | [], [], [], _, _, h, _, _ => h
  | t :: _, _ :: _, _ :: _, _, ht, ⟨p, q, h1, h2, e⟩, hlt, hs =>
    ⟨p, q, WideElems.Trod_stays hl (ht t (by simp)).1 (ht t (by simp)).2 h1 (fun x hx => hb.same (hlt x (by rw [e]; exact List.mem_append_left _ hx))) (fun x hx => hs x (by rw [e]; exact List.mem_append_left _ hx)),
      trodAll_below hl hb sp (fun t' ht' => ht t' (List.mem_cons_of_mem _ ht')) h2 (fun x hx => hlt x (by rw [e]; exact List.mem_append_right _ hx)) (fun x hx => hs x (by rw [e]; exact List.mem_append_right _ hx)), e⟩
theorem post_of_below {f : Func} {s : ChangeSpec} {apart fresh handsOn : Bool} {W W' : World} {args : Array Value} {ds gs : List (DataW H)} {before : List MemPlace} {tb : TypeId}
    (hvars : s.vars = []) (hfn : s.fn H ds = { results := [.lit (.bool true)], args := ds }) (hres : f.resultTypes = #[tb]) (hub : P.underlying tb = some .bool)
    (hl : laidOutB P = true) (hpar : ∀ t ∈ f.params.toList, P.readableRec t = true ∧ t < P.types.size)
    (hW : DataW.Whole enc P f.params.toList s.vars apart W args.toList ds gs before) (hb : Below W.heap.size W W') : s.post enc P f apart fresh handsOn false W args (.bool true) W' := by
  have hlt : ∀ x ∈ before, x.block < W.heap.size := fun x hx => by simpa using hW.lt x hx
  have hW' := hW
  obtain ⟨p, q, hA, hV, rfl, _, _⟩ := hW
  rw [hvars] at hV
  obtain ⟨rfl, rfl⟩ := trodVars_none hV
  rw [List.append_nil] at hW' hlt
  refine ⟨ds, [], p, [], p, [], hW', ?_, ?_, ?_, hb.frame _, fun h => by cases h⟩
  · rw [List.append_nil, hfn, hres]
    exact trodAll_cons_mk (shut_bool hub _) trodAll_mk0
  · rw [List.append_nil, hfn]
    exact trodAll_below hl hb _ hpar hA hlt (fun x hx => by simpa using hlt x hx)
  · rw [List.append_nil, hfn, hvars]; exact rfl
end
end Go.Proofs.Ytpmapedhigjalaa
end
section
/- What a cell and a call are that come in. -/
namespace Go.Proofs.Ytpmapedhigjalaa
set_option maxRecDepth 100000
set_option linter.unusedVariables false
set_option linter.unusedSimpArgs false
open Go.Sx Go.ChangeShapes Go.RowKit

structure GOp where
  k : Int
  a : Int
  b : Int
  n : Int
  c : Cell
  deriving Inhabited
def GOp.enc (o : GOp) : List Value := [.int .i64 o.k, .int .i64 o.a, .int .i64 o.b, .int .i64 o.n, .int .i32 o.c.pt, .int .u8 o.c.fl, .int .u32 o.c.fg, .int .u32 o.c.bg]
section
variable {H : Type} {enc : TypeId × Value → H} {W : World} {base : Nat} {sp : Nat → Bool} {held : Bool} {fuel : Nat} {cs : List Value} {x : DataW H × List MemPlace}
theorem fldT {P : Program} {t : TypeId} {fs : Array Field} (ht : P.underlying t = some (.struct fs)) (h : DataW.trod enc P W base sp held fuel t cs = some x) (i : Nat) (t' off c : Nat) {f : Field} (hi : fs[i]? = some f) (e1 : f.type = t') (e2 : f.offset = off) (e3 : P.cellsOf t' = c) :
    ∃ n y, DataW.trod enc P W base sp held n t' ((cs.drop off).take c) = some y := by
  subst e1 e2 e3
  obtain ⟨xs, n, _, _, _, hl, hf⟩ := DataW.trod_struct ht h
  have hlt : i < xs.length := by rw [hl]; exact (Array.getElem?_eq_some_iff.1 hi).1
  exact ⟨n, xs[i], by rw [hf i f hi, List.getElem?_eq_getElem hlt]⟩
theorem lenT {P : Program} {t : TypeId} {fs : Array Field} (ht : P.underlying t = some (.struct fs)) (h : DataW.trod enc P W base sp held fuel t cs = some x) : cs.length = P.cellsOf t := by
  obtain ⟨xs, n, _, _, hc, _, _⟩ := DataW.trod_struct ht h
  exact hc
theorem cells1_21 : Try.prog.cellsOf 21 = 1 := by kernel_rfl
theorem cells1_5 : Try.prog.cellsOf 5 = 1 := by kernel_rfl
theorem cells1_35 : Try.prog.cellsOf 35 = 1 := by kernel_rfl
theorem cells1_3 : Try.prog.cellsOf 3 = 1 := by kernel_rfl
theorem cells3_37 : Try.prog.cellsOf 37 = 3 := by kernel_rfl
theorem cells4_39 : Try.prog.cellsOf 39 = 4 := by kernel_rfl
def Cell.In32 (c : Cell) : Prop := c.In ∧ -2147483648 ≤ c.pt ∧ c.pt ≤ 2147483647
theorem trod_cell (h : DataW.trod enc Try.prog W base sp held fuel 39 cs = some x) : ∃ c : Cell, cs = c.enc ∧ c.In32 := by
  have hl := lenT Try.underlying39 h
  rw [cells4_39] at hl
  match cs, hl with
  | [v0, v1, v2, v3], _ =>
    obtain ⟨n0, y0, h0⟩ := fldT Try.underlying39 h 0 21 0 1 rfl rfl rfl cells1_21
    obtain ⟨n1, y1, h1⟩ := fldT Try.underlying39 h 1 37 1 3 rfl rfl rfl cells3_37
    obtain ⟨a0, e0, _, w0⟩ := DataW.trod_int Try.underlying21 h0
    obtain ⟨n2, y2, h2⟩ := fldT Try.underlying37 h1 0 5 0 1 rfl rfl rfl cells1_5
    obtain ⟨n3, y3, h3⟩ := fldT Try.underlying37 h1 1 35 1 1 rfl rfl rfl cells1_35
    obtain ⟨n4, y4, h4⟩ := fldT Try.underlying37 h1 2 35 2 1 rfl rfl rfl cells1_35
    obtain ⟨a1, e1, _, w1⟩ := DataW.trod_int Try.underlying5 h2
    obtain ⟨a2, e2, _, w2⟩ := DataW.trod_int Try.underlying35 h3
    obtain ⟨a3, e3, _, w3⟩ := DataW.trod_int Try.underlying35 h4
    simp at e0 e1 e2 e3
    subst e0 e1 e2 e3
    have b0 := bounds_i32 w0
    have b1 := bounds_u8 w1
    have b2 := bounds_u32 w2
    have b3 := bounds_u32 w3
    exact ⟨⟨a0, a1, a2, a3⟩, rfl, ⟨by dsimp only; omega, by dsimp only; omega, by dsimp only; omega, by dsimp only; omega, by dsimp only; omega, by dsimp only; omega⟩, b0.1, b0.2⟩
theorem cells8_op : Try.prog.cellsOf 41 = 8 := by kernel_rfl
theorem trod_op (h : DataW.trod enc Try.prog W base sp held fuel 41 cs = some x) : ∃ o : GOp, cs = o.enc ∧ o.c.In32 := by
  have hl := lenT Try.underlying41 h
  rw [cells8_op] at hl
  match cs, hl with
  | [v0, v1, v2, v3, v4, v5, v6, v7], _ =>
    obtain ⟨n0, y0, h0⟩ := fldT Try.underlying41 h 0 3 0 1 rfl rfl rfl cells1_3
    obtain ⟨n1, y1, h1⟩ := fldT Try.underlying41 h 1 3 1 1 rfl rfl rfl cells1_3
    obtain ⟨n2, y2, h2⟩ := fldT Try.underlying41 h 2 3 2 1 rfl rfl rfl cells1_3
    obtain ⟨n3, y3, h3⟩ := fldT Try.underlying41 h 3 3 3 1 rfl rfl rfl cells1_3
    obtain ⟨n4, y4, h4⟩ := fldT Try.underlying41 h 4 39 4 4 rfl rfl rfl cells4_39
    obtain ⟨a0, e0, _, w0⟩ := DataW.trod_int Try.underlying3 h0
    obtain ⟨a1, e1, _, w1⟩ := DataW.trod_int Try.underlying3 h1
    obtain ⟨a2, e2, _, w2⟩ := DataW.trod_int Try.underlying3 h2
    obtain ⟨a3, e3, _, w3⟩ := DataW.trod_int Try.underlying3 h3
    obtain ⟨c, e4, hc⟩ := trod_cell h4
    simp [Cell.enc] at e0 e1 e2 e3 e4
    obtain ⟨e4, e5, e6, e7⟩ := e4
    subst e0 e1 e2 e3 e4 e5 e6 e7
    exact ⟨⟨a0, a1, a2, a3, c⟩, rfl, hc⟩
open Go.WideShapes in
end
end Go.Proofs.Ytpmapedhigjalaa
end
section
/- The library's functions on slices, at this seat's types. -/
namespace Go.Proofs.Ytpmapedhigjalaa
set_option maxRecDepth 100000
set_option linter.unusedVariables false
set_option linter.unusedSimpArgs false
open Go.Sx

/-- slices.Clone at one type -/
theorem cloneC_ok (E : Env) (v : Value) (m : Nat) (vs : List Value) (h : Sl E [] 4 v m vs) (h1 : vs.all (·.oneCell') = true) (hb : m * 16 ≤ 140737488355328) : Does Try.prog 84 #[v] E [] fun r H' => H' = [osl 39 4 r m vs] ∧ IsSl r := by
  refine Does.go (args := [v]) _ _ Try.func84 rfl Try.ntmps84 rfl rfl ?_
  refine Body.seq ?_
  refine Body.region ?_
  refine Ops.u (Dtu.asg (lk rfl)) rfl ?_
  refine Ops.nil ?_
  refine Then.next ?_
  refine Body.seq ?_
  refine Body.seq ?_
  refine Body.region ?_
  refine Ops.u (Dtu.mv (lk rfl)) rfl ?_
  refine Ops.u (Dtu.nilS Try.underlying62 (Sl.up h) (lk rfl)) rfl ?_
  refine Ops.nil ?_
  refine Then.next ?_
  refine Body.cond (lk rfl) (fun c4 => ?_) (fun c4 => ?_)
  · refine Body.pure (h.nil0 c4) ?_
    rintro ⟨rfl, rfl⟩
    refine Body.seq ?_
    refine Body.region ?_
    refine Ops.u (Dtu.asg (lk rfl)) rfl ?_
    refine Ops.nil ?_
    refine Then.next ?_
    refine Body.ret ?_
    refine Then.ret ?_
    exact ⟨.inr rfl, _, fun w s => osl_nil (pk [] rfl w s), rfl, ⟨_, _, _, rfl⟩⟩
  · refine Body.pure h.len ?_
    rintro ⟨hl, hm⟩
    refine Body.skip ?_
    refine Then.next ?_
    refine Body.seq ?_
    refine Body.region ?_
    refine Ops.s (Stp.buildSlice0 Try.underlying62 ty39 (fun b5 => ?_)) rfl
    refine Ops.u (Dtu.mv (lk rfl)) rfl ?_
    refine Ops.s (Stp.appendNew Try.underlying62 ty39 rfl (lk rfl) (lk rfl) h.up h1 hb hm (fun v7 => ?_)) rfl
    refine Ops.pure (Sl.isSl (Sl.osl 0 rfl)) fun hsl => ?_
    refine Ops.u (Dtu.asg (lk rfl)) rfl ?_
    refine Ops.nil ?_
    refine Then.next ?_
    refine Body.ret ?_
    exact ⟨.inr rfl, _, pk [0] rfl, rfl, hsl⟩

theorem and_mask {a : Int} (h0 : 0 ≤ a) (h1 : a < 4294967296) : ibit .and .u64 a 4294967295 = a := by
  obtain ⟨n, rfl⟩ := Int.eq_ofNat_of_zero_le h0
  have e1 : BitVec.ofInt IntKind.u64.bits (n : Int) = BitVec.ofNat IntKind.u64.bits n := by rw [← BitVec.ofInt_natCast]
  have e2 : BitVec.ofInt IntKind.u64.bits (4294967295 : Int) = BitVec.ofNat IntKind.u64.bits 4294967295 := rfl
  simp only [ibit, e1, e2, BitVec.toNat_and, BitVec.toNat_ofNat]
  rw [Nat.mod_eq_of_lt (by simp [IntKind.bits]; omega), Nat.mod_eq_of_lt (by simp [IntKind.bits])]
  have : (4294967295 : Nat) = 2 ^ 32 - 1 := by decide
  rw [this, Nat.and_two_pow_sub_one_eq_mod, Nat.mod_eq_of_lt (by omega)]
  exact wu64 (by omega) (by omega)
theorem shr_32 {a : Int} (h0 : 0 ≤ a) : a.fdiv (2 ^ (min (32 : Int).toNat IntKind.u64.bits)) = a / 4294967296 := by
  have : (2 : Int) ^ (min (32 : Int).toNat IntKind.u64.bits) = 4294967296 := by decide
  rw [this, Int.fdiv_eq_ediv_of_nonneg _ (by omega)]
theorem mul64_ok (E : Env) (x y : Int) (hx : 0 ≤ x ∧ x < 4294967296) (hy : 0 ≤ y ∧ y < 4294967296) : Does Try.prog 123 #[.int .u64 x, .int .u64 y] E [] fun r H' => r = .tuple #[.int .u64 0, .int .u64 (x * y)] ∧ H' = [] := by
  have hxy : 0 ≤ x * y := Int.mul_nonneg hx.1 hy.1
  have hxy2 : x * y < 18446744073709551616 := by
    have : x * y ≤ 4294967295 * 4294967295 := Int.mul_le_mul (by omega) (by omega) hy.1 (by omega)
    omega
  have a1 := and_mask hx.1 hx.2
  have a2 := and_mask hy.1 hy.2
  have s1 : x.fdiv (2 ^ (min (32 : Int).toNat IntKind.u64.bits)) = 0 := by rw [shr_32 hx.1]; omega
  have s2 : y.fdiv (2 ^ (min (32 : Int).toNat IntKind.u64.bits)) = 0 := by rw [shr_32 hy.1]; omega
  have m1 := wu64 hxy (by omega)
  have z1 : IntKind.u64.wrap (0 * y) = 0 := by rw [Int.zero_mul]; rfl
  have z2 : IntKind.u64.wrap (x * 0) = 0 := by rw [Int.mul_zero]; rfl
  have z3 : IntKind.u64.wrap (0 * 0) = 0 := rfl
  have s3 : (x * y).fdiv (2 ^ (min (32 : Int).toNat IntKind.u64.bits)) = x * y / 4294967296 := shr_32 hxy
  have z4 : IntKind.u64.wrap (0 + x * y / 4294967296) = x * y / 4294967296 := by rw [Int.zero_add]; exact wu64 (by omega) (by omega)
  have a3 := and_mask (a := x * y / 4294967296) (by omega) (by omega)
  have s4 : (x * y / 4294967296).fdiv (2 ^ (min (32 : Int).toNat IntKind.u64.bits)) = 0 := by rw [shr_32 (by omega)]; omega
  have z5 : IntKind.u64.wrap (x * y / 4294967296 + 0) = x * y / 4294967296 := by rw [Int.add_zero]; exact wu64 (by omega) (by omega)
  have z6 : IntKind.u64.wrap (0 + 0) = 0 := rfl
  refine Does.go (args := [.int .u64 x, .int .u64 y]) _ _ Try.func123 rfl Try.ntmps123 rfl rfl ?_
  refine Body.seq ?_
  refine Body.region ?_
  refine Ops.u (Dtu.asg (lk rfl)) rfl ?_
  refine Ops.u (Dtu.asg (lk rfl)) rfl ?_
  refine Ops.nil ?_
  refine Then.next ?_
  refine Body.seq ?_
  refine Body.region ?_
  refine Ops.u (Dtu.mv (lk rfl)) rfl ?_
  refine Ops.u (Dtu.bit rfl (lk rfl) (lk rfl) (by with_reducible assumption)) rfl ?_
  refine Ops.u (Dtu.asg (lk rfl)) rfl ?_
  refine Ops.nil ?_
  refine Then.next ?_
  refine Body.seq ?_
  refine Body.region ?_
  refine Ops.u (Dtu.mv (lk rfl)) rfl ?_
  refine Ops.u (Dtu.shr (lk rfl) (lk rfl) (by first | decide | omega) (by with_reducible assumption)) rfl ?_
  refine Ops.u (Dtu.asg (lk rfl)) rfl ?_
  refine Ops.nil ?_
  refine Then.next ?_
  refine Body.seq ?_
  refine Body.region ?_
  refine Ops.u (Dtu.mv (lk rfl)) rfl ?_
  refine Ops.u (Dtu.bit rfl (lk rfl) (lk rfl) (by with_reducible assumption)) rfl ?_
  refine Ops.u (Dtu.asg (lk rfl)) rfl ?_
  refine Ops.nil ?_
  refine Then.next ?_
  refine Body.seq ?_
  refine Body.region ?_
  refine Ops.u (Dtu.mv (lk rfl)) rfl ?_
  refine Ops.u (Dtu.shr (lk rfl) (lk rfl) (by first | decide | omega) (by with_reducible assumption)) rfl ?_
  refine Ops.u (Dtu.asg (lk rfl)) rfl ?_
  refine Ops.nil ?_
  refine Then.next ?_
  refine Body.seq ?_
  refine Body.region ?_
  refine Ops.u (Dtu.mv (lk rfl)) rfl ?_
  refine Ops.u (Dtu.mv (lk rfl)) rfl ?_
  refine Ops.u (Dtu.mul (lk rfl) (lk rfl) (by with_reducible assumption)) rfl ?_
  refine Ops.u (Dtu.asg (lk rfl)) rfl ?_
  refine Ops.nil ?_
  refine Then.next ?_
  refine Body.seq ?_
  refine Body.region ?_
  refine Ops.u (Dtu.mv (lk rfl)) rfl ?_
  refine Ops.u (Dtu.mv (lk rfl)) rfl ?_
  refine Ops.u (Dtu.mul (lk rfl) (lk rfl) (by with_reducible assumption)) rfl ?_
  refine Ops.u (Dtu.mv (lk rfl)) rfl ?_
  refine Ops.u (Dtu.shr (lk rfl) (lk rfl) (by first | decide | omega) (by with_reducible assumption)) rfl ?_
  refine Ops.u (Dtu.add (lk rfl) (lk rfl) (by with_reducible assumption)) rfl ?_
  refine Ops.u (Dtu.asg (lk rfl)) rfl ?_
  refine Ops.nil ?_
  refine Then.next ?_
  refine Body.seq ?_
  refine Body.region ?_
  refine Ops.u (Dtu.mv (lk rfl)) rfl ?_
  refine Ops.u (Dtu.bit rfl (lk rfl) (lk rfl) (by with_reducible assumption)) rfl ?_
  refine Ops.u (Dtu.asg (lk rfl)) rfl ?_
  refine Ops.nil ?_
  refine Then.next ?_
  refine Body.seq ?_
  refine Body.region ?_
  refine Ops.u (Dtu.mv (lk rfl)) rfl ?_
  refine Ops.u (Dtu.shr (lk rfl) (lk rfl) (by first | decide | omega) (by with_reducible assumption)) rfl ?_
  refine Ops.u (Dtu.asg (lk rfl)) rfl ?_
  refine Ops.nil ?_
  refine Then.next ?_
  refine Body.seq ?_
  refine Body.region ?_
  refine Ops.u (Dtu.mv (lk rfl)) rfl ?_
  refine Ops.u (Dtu.mv (lk rfl)) rfl ?_
  refine Ops.u (Dtu.mv (lk rfl)) rfl ?_
  refine Ops.u (Dtu.mul (lk rfl) (lk rfl) (by with_reducible assumption)) rfl ?_
  refine Ops.u (Dtu.add (lk rfl) (lk rfl) (by with_reducible assumption)) rfl ?_
  refine Ops.u (Dtu.asg (lk rfl)) rfl ?_
  refine Ops.nil ?_
  refine Then.next ?_
  refine Body.seq ?_
  refine Body.region ?_
  refine Ops.u (Dtu.mv (lk rfl)) rfl ?_
  refine Ops.u (Dtu.mv (lk rfl)) rfl ?_
  refine Ops.u (Dtu.mul (lk rfl) (lk rfl) (by with_reducible assumption)) rfl ?_
  refine Ops.u (Dtu.mv (lk rfl)) rfl ?_
  refine Ops.u (Dtu.add (lk rfl) (lk rfl) (by with_reducible assumption)) rfl ?_
  refine Ops.u (Dtu.mv (lk rfl)) rfl ?_
  refine Ops.u (Dtu.shr (lk rfl) (lk rfl) (by first | decide | omega) (by with_reducible assumption)) rfl ?_
  refine Ops.u (Dtu.add (lk rfl) (lk rfl) (by with_reducible assumption)) rfl ?_
  refine Ops.u (Dtu.asg (lk rfl)) rfl ?_
  refine Ops.nil ?_
  refine Then.next ?_
  refine Body.seq ?_
  refine Body.region ?_
  refine Ops.u (Dtu.mv (lk rfl)) rfl ?_
  refine Ops.u (Dtu.mv (lk rfl)) rfl ?_
  refine Ops.u (Dtu.mul (lk rfl) (lk rfl) (by with_reducible assumption)) rfl ?_
  refine Ops.u (Dtu.asg (lk rfl)) rfl ?_
  refine Ops.nil ?_
  refine Then.next ?_
  refine Body.ret ?_
  exact ⟨.inr rfl, _, pk [] rfl, rfl, rfl⟩
theorem mul_ok (E : Env) (x y : Int) (hx : 0 ≤ x ∧ x < 4294967296) (hy : 0 ≤ y ∧ y < 4294967296) : Does Try.prog 115 #[.int .u64 x, .int .u64 y] E [] fun r H' => r = .tuple #[.int .u64 0, .int .u64 (x * y)] ∧ H' = [] := by
  have hxy : 0 ≤ x * y := Int.mul_nonneg hx.1 hy.1
  have hxy2 : x * y < 18446744073709551616 := by
    have : x * y ≤ 4294967295 * 4294967295 := Int.mul_le_mul (by omega) (by omega) hy.1 (by omega)
    omega
  refine Does.go (args := [.int .u64 x, .int .u64 y]) _ _ Try.func115 rfl Try.ntmps115 rfl rfl ?_
  refine Body.seq ?_
  refine Body.region ?_
  refine Ops.u (Dtu.asg (lk rfl)) rfl ?_
  refine Ops.u (Dtu.asg (lk rfl)) rfl ?_
  refine Ops.nil ?_
  refine Then.next ?_
  refine Body.seq ?_
  refine Body.condF (lk rfl) ?_
  refine Body.skip ?_
  refine Then.next ?_
  refine Body.seq ?_
  refine Body.region ?_
  refine Ops.u (Dtu.mv (lk rfl)) rfl ?_
  refine Ops.u (Dtu.mv (lk rfl)) rfl ?_
  refine Ops.s (Stp.call rfl Try.call123 (lks rfl) (fun E' le hat => mul64_ok E' _ _ hx hy) ?_) rfl
  rintro _ _ ⟨rfl, rfl⟩
  refine Ops.u (Dtu.mv (lk rfl)) rfl ?_
  refine Ops.u (Dtu.ext (lk rfl) rfl) rfl ?_
  refine Ops.u (Dtu.ext (lk rfl) rfl) rfl ?_
  refine Ops.u (Dtu.asg (lk rfl)) rfl ?_
  refine Ops.u (Dtu.asg (lk rfl)) rfl ?_
  refine Ops.nil ?_
  refine Then.next ?_
  refine Body.seq ?_
  refine Body.region ?_
  refine Ops.u (Dtu.mv (lk rfl)) rfl ?_
  refine Ops.u (Dtu.mv (lk rfl)) rfl ?_
  refine Ops.u (Dtu.asg (lk rfl)) rfl ?_
  refine Ops.u (Dtu.asg (lk rfl)) rfl ?_
  refine Ops.nil ?_
  refine Then.next ?_
  refine Body.ret ?_
  exact ⟨.inr rfl, _, pk [] rfl, rfl, rfl⟩

/-- slices.Repeat of one element -/
def repeatCB (c : List Value) : Bool → List Value
  | true => c
  | false => [.int .i32 0, .int .u8 0, .int .u32 0, .int .u32 0]
theorem repeatC_mix (n k : Nat) (hn : n ≤ k) : (List.replicate n true ++ List.replicate (k - n) false).take n ++ (((List.replicate n true ++ List.replicate (k - n) false).drop 0).take (n - 0)).take (Nat.min (n - 0) (k - n)) ++ (List.replicate n true ++ List.replicate (k - n) false).drop (n + Nat.min (n - 0) (k - n)) =
    List.replicate (n + Nat.min n (k - n)) true ++ List.replicate (k - (n + Nat.min n (k - n))) false := by
  have hm : Nat.min n (k - n) ≤ n := Nat.min_le_left _ _
  have hm2 : Nat.min n (k - n) ≤ k - n := Nat.min_le_right _ _
  simp only [Nat.sub_zero, List.drop_zero]
  generalize Nat.min n (k - n) = q at *
  rw [List.take_append_of_le_length (by simp), List.take_of_length_le (by simp), List.take_replicate, Nat.min_eq_left hm, List.drop_append]
  simp only [List.length_replicate, List.drop_replicate]
  rw [show n - (n + q) = 0 by omega, show n + q - n = q by omega, List.replicate_zero, List.nil_append, List.replicate_append_replicate, show k - n - q = k - (n + q) by omega]
theorem repeatC_ok (E : Env) (v : Value) (c : List Value) (k : Nat) (h : Sl E [] 4 v 1 c) (h1 : c.all (·.oneCell') = true) (hk : k < 4294967296) : Does Try.prog 108 #[v, .int .i64 k] E [] fun r H' => H' = [osl 39 4 r k (List.replicate k c).flatten] ∧ IsSl r := by
  refine Does.pure h.len fun hlen => ?_
  have hB : ∀ b, (repeatCB c b).length = 4 := fun b => by cases b <;> simp [repeatCB, hlen.1]
  have hB1 : ∀ b, (repeatCB c b).all (·.oneCell') = true := fun b => match b with
    | true => h1
    | false => rfl
  have h' : Sl E [] 4 v 1 ([true].flatMap (repeatCB c)) := by simpa [repeatCB] using h
  refine Does.go (args := [v, .int .i64 k]) _ _ Try.func108 rfl Try.ntmps108 rfl rfl ?_
  refine Body.seq ?_
  refine Body.region ?_
  refine Ops.u (Dtu.asg (lk rfl)) rfl ?_
  refine Ops.nil ?_
  refine Then.next ?_
  refine Body.seq ?_
  refine Body.seq ?_
  refine Body.region ?_
  refine Ops.u (Dtu.mv (lk rfl)) rfl ?_
  refine Ops.u (Dtu.lss (lk rfl) (lk rfl)) rfl ?_
  refine Ops.nil ?_
  refine Then.next ?_
  refine Body.condP (lk rfl) (fun hy => absurd hy (by first | omega | assumption | decide)) (fun _ => ?_)
  refine Body.skip ?_
  refine Then.next ?_
  refine Body.seq ?_
  refine Body.region ?_
  refine Ops.u (Dtu.mv (lk rfl)) rfl ?_
  refine Ops.u (Dtu.lenS Try.underlying62 (Sl.up h) (lk rfl)) rfl ?_
  refine Ops.u (Dtu.cvt Try.underlying3 Try.underlying177 (lk rfl) (wu64 (by omega) (by omega))) rfl ?_
  refine Ops.u (Dtu.mv (lk rfl)) rfl ?_
  refine Ops.u (Dtu.cvt Try.underlying3 Try.underlying177 (lk rfl) (wu64 (by omega) (by omega))) rfl ?_
  refine Ops.s (Stp.call rfl Try.call115 (lks rfl) (fun E' le hat => (mul_ok E' (↑(1 : Nat)) k (by omega) (by omega)).mono (fun r H' q => by rw [show (↑(1 : Nat) : Int) * (k : Int) = k by omega] at q; exact q)) ?_) rfl
  rintro _ _ ⟨rfl, rfl⟩
  refine Ops.u (Dtu.mv (lk rfl)) rfl ?_
  refine Ops.u (Dtu.ext (lk rfl) rfl) rfl ?_
  refine Ops.u (Dtu.ext (lk rfl) rfl) rfl ?_
  refine Ops.u (Dtu.asg (lk rfl)) rfl ?_
  refine Ops.u (Dtu.asg (lk rfl)) rfl ?_
  refine Ops.nil ?_
  refine Then.next ?_
  refine Body.seq ?_
  refine Body.seq ?_
  refine Body.region ?_
  refine Ops.u (Dtu.mv (lk rfl)) rfl ?_
  refine Ops.u (Dtu.gtr (lk rfl) (lk rfl)) rfl ?_
  refine Ops.u (Dtu.mv (lk rfl)) rfl ?_
  refine Ops.decP 23 rfl (fun hy => absurd hy (by first | omega | assumption | decide)) (fun _ => ?_)
  refine Ops.gu rfl rfl rfl (Dtu.mv (lk rfl)) rfl ?_
  refine Ops.gu rfl rfl rfl (Dtu.gtr (lk rfl) (lk rfl)) rfl ?_
  refine Ops.u (Dtu.pickF (lk rfl) (lk rfl)) rfl ?_
  refine Ops.nil ?_
  refine Then.next ?_
  refine Body.condP (lk rfl) (fun hy => absurd hy (by first | omega | assumption | decide)) (fun _ => ?_)
  refine Body.skip ?_
  refine Then.next ?_
  refine Body.seq ?_
  refine Body.region ?_
  refine Ops.u (Dtu.mv (lk rfl)) rfl ?_
  refine Ops.u (Dtu.cvt Try.underlying177 Try.underlying3 (lk rfl) (w64 (by omega) (by omega))) rfl ?_
  refine Ops.s (Stp.make (m := (k)) Try.underlying62 ty39 rfl (lk rfl) (lk rfl) (by omega) (by omega) (by omega) (fun v30 => ?_)) rfl
  refine Ops.u (Dtu.asg (lk rfl)) rfl ?_
  refine Ops.nil ?_
  refine Then.next ?_
  refine Body.seq ?_
  refine Body.region ?_
  refine Ops.u (Dtu.mv (lk rfl)) rfl ?_
  refine Ops.u (Dtu.mv (lk rfl)) rfl ?_
  rw [show (List.replicate k [.int .i32 0, .int .u8 0, .int .u32 0, .int .u32 0]).flatten = (List.replicate k false).flatMap (repeatCB c) from rep_flat (enc := repeatCB c) false k]
  refine Ops.s (Stp.copyF 0 hB Try.underlying62 Try.sizeOf39 rfl (lk rfl) (LiesIn.whole (Sl.osl 0 rfl)) (by omega) (lk rfl) h'.up hB1 rfl ?_) rfl
  refine Ops.u (Dtu.asg (lk rfl)) rfl ?_
  refine Ops.nil ?_
  refine Then.next ?_
  refine Body.seq ?_
  refine Body.block ?_
  refine Body.loopF (γ := Nat) rfl (fun n => [(8, .int .i64 n)]) (fun n => [osl 39 4 v30 k ((List.replicate n true ++ List.replicate (k - n) false).flatMap (repeatCB c))]) (fun n => n ≤ k ∧ (k = 0 ∨ 1 ≤ n)) (fun n => k - n) (Nat.min 1 k) ?_ ⟨rfl, trivial⟩ ?_ ?_
  · have := Nat.min_le_right 1 k
    refine ⟨this, ?_⟩
    by_cases hk0 : k = 0
    · exact .inl hk0
    · exact .inr (Nat.le_min.2 ⟨Nat.le_refl _, by omega⟩)
  · congr 2
    by_cases hk0 : k = 0
    · subst hk0; rfl
    · have : Nat.min 1 k = 1 := Nat.min_eq_left (by omega)
      rw [this]; simp
  · rintro n u ⟨hn, hn1⟩
    have hs := Sl.subF hB (E := E) (H := [osl 39 4 v30 k ((List.replicate n true ++ List.replicate (k - n) false).flatMap (repeatCB c))]) (Sl.osl 0 rfl) 0 n (by omega) (by omega)
    refine Body.seq ?_
    refine Body.seq ?_
    refine Body.region ?_
    refine Ops.u (Dtu.mv (lk rfl)) rfl ?_
    refine Ops.u (Dtu.mv (lk rfl)) rfl ?_
    refine Ops.u (Dtu.lenS Try.underlying62 (Sl.osl 0 rfl) (lk rfl)) rfl ?_
    refine Ops.u (Dtu.lss (lk rfl) (lk rfl)) rfl ?_
    refine Ops.nil ?_
    refine Then.next ?_
    refine Body.condP (lk rfl) (fun c37 => ?_) (fun c37 => ?_)
    · refine Body.skip ?_
      refine Then.next ?_
      refine Body.block ?_
      refine Body.draw mixed ?_
      refine AB.u 0 rfl (by decide +kernel) (Dtu.mv (lk rfl)) rfl ?_
      refine AB.u 1 rfl (by decide +kernel) (Dtu.mv (lk rfl)) rfl ?_
      refine AB.u 2 rfl (by decide +kernel) (Dtu.mv (lk rfl)) rfl ?_
      refine AB.u 3 rfl (by decide +kernel) (Dtu.slL (n) Try.underlying62 Try.sizeOf39 (Sl.osl 0 rfl) (lk rfl) (lk rfl) (by omega) (by omega)) rfl ?_
      refine AB.u 4 rfl (by decide +kernel) (Dtu.mv (lk rfl)) rfl ?_
      refine AB.u 5 rfl (by decide +kernel) (Dtu.mv (lk rfl)) rfl ?_
      refine AB.u 6 rfl (by decide +kernel) (Dtu.slH (n) Try.underlying62 Try.sizeOf39 (Sl.osl 0 rfl) (lk rfl) (lk rfl) (by omega) (by omega)) rfl ?_
      refine AB.s 7 rfl (by decide +kernel) (by decide +kernel) (Stp.copyF 0 hB Try.underlying62 Try.sizeOf39 rfl (lk rfl) (LiesIn.sub' (Sl.osl 0 rfl) (by omega) (by omega)) (by omega) (lk rfl) hs hB1 rfl ?_) rfl
      have hm : Nat.min (n - 0) (k - n) ≤ k - n := Nat.min_le_right _ _
      have hm2 : 1 ≤ Nat.min (n - 0) (k - n) := Nat.le_min.2 ⟨by omega, by omega⟩
      rw [repeatC_mix n k hn]
      rw [Nat.sub_zero] at *
      generalize Nat.min n (k - n) = q at *
      refine AB.u 8 rfl (by decide +kernel) (Dtu.add (lk rfl) (lk rfl) (w64 (by omega) (by omega))) rfl ?_
      refine AB.u 9 rfl (by decide +kernel) (Dtu.asg (lk rfl)) rfl ?_
      refine AB.done (by decide +kernel) ?_
      refine Blk.norm ?_
      exact Round.goF (n + q) rfl rfl rfl ⟨int_eq (by omega), trivial⟩ rfl ⟨by omega, by omega⟩ (by omega)
    · obtain rfl : n = k := by omega
      refine Body.pure (Sl.isSl (Sl.osl 0 rfl)) fun hsl => ?_
      refine Body.exit ?_
      refine Then.exit ?_
      refine Round.exit ?_
      refine Blk.here ?_
      refine Then.next ?_
      refine Body.seq ?_
      refine Body.region ?_
      refine Ops.u (Dtu.mv (lk rfl)) rfl ?_
      refine Ops.u (Dtu.asg (lk rfl)) rfl ?_
      refine Ops.nil ?_
      refine Then.next ?_
      refine Body.ret ?_
      refine ⟨.inr rfl, _, pk [0] rfl, ?_, hsl⟩
      rw [Nat.sub_self, List.replicate_zero, List.append_nil, ← rep_flat]; rfl

end Go.Proofs.Ytpmapedhigjalaa
end
section
/- A grid: rows as they lie; line, New. -/
namespace Go.Proofs.Ytpmapedhigjalaa
set_option maxRecDepth 100000
set_option linter.unusedVariables false
set_option linter.unusedSimpArgs false
open Go.Sx

def Cell.blank : Cell := ⟨32, 0, 0, 0⟩
structure Row where
  a : Option Addr
  m : Nat
  c : Nat
  cs : List Cell
  deriving Inhabited
abbrev Row.hd (r : Row) : Value := .slice r.a r.m r.c
abbrev Row.own (r : Row) : HProp := osl 39 4 r.hd r.cs.length (r.cs.flatMap Cell.enc)
def Row.hdl (r : Row) : List Value := [.slice r.a r.m r.c]
theorem blank_ok (E : Env) : Does Try.prog 24 #[] E [] fun r H' => r = .agg #[.int .i32 32, .int .u8 0, .int .u32 0, .int .u32 0] ∧ H' = [] := by
  refine Does.go (args := []) _ _ Try.func24 rfl Try.ntmps24 rfl rfl ?_
  refine Body.seq ?_
  refine Body.region ?_
  refine Ops.s (Stp.alloc ty39 (fun b0 => ?_)) rfl
  refine Ops.nil ?_
  refine Then.next ?_
  refine Body.seq ?_
  refine Body.region ?_
  refine Ops.u (Dtu.build ty39 pl39 (lkp rfl) rfl rfl) rfl ?_
  refine Ops.e (Stp.store 0 Try.sizeOf39 (lk rfl) (lk rfl) rfl rfl rfl rfl rfl rfl rfl ?_)
  refine Ops.nil ?_
  refine Then.next ?_
  refine Body.ret ?_
  exact ⟨.inr rfl, _, Loads.agg Try.isAgg39 Try.sizeOf39 (Rds.ow (m := 4) 0 rfl rfl) rfl, _, pk [] rfl, rfl, rfl⟩
def fitsG (rows cols : Int) : Bool := decide (1 ≤ rows ∧ rows ≤ 12 ∧ 1 ≤ cols ∧ cols ≤ 40)
theorem fits_ok (E : Env) (rows cols : Int) : Does Try.prog 73 #[.int .i64 rows, .int .i64 cols] E [] fun r H' => r = .bool (fitsG rows cols) ∧ H' = [] := by
  refine Does.go (args := [.int .i64 rows, .int .i64 cols]) _ _ Try.func73 rfl Try.ntmps73 rfl rfl ?_
  refine Body.seq ?_
  refine Body.region ?_
  refine Ops.u (Dtu.asg (lk rfl)) rfl ?_
  refine Ops.nil ?_
  refine Then.next ?_
  refine Body.seq ?_
  refine Body.region ?_
  refine Ops.u (Dtu.mv (lk rfl)) rfl ?_
  refine Ops.u (Dtu.geq (lk rfl) (lk rfl)) rfl ?_
  refine Ops.u (Dtu.mv (lk rfl)) rfl ?_
  refine Ops.decP 7 rfl (fun c7 => ?_) (fun c7 => ?_)
  · refine Ops.gu rfl rfl rfl (Dtu.mv (lk rfl)) rfl ?_
    refine Ops.gu rfl rfl rfl (Dtu.leq (lk rfl) (lk rfl)) rfl ?_
    refine Ops.u (Dtu.pickT (lk rfl) (lk rfl)) rfl ?_
    refine Ops.u (Dtu.mv (lk rfl)) rfl ?_
    refine Ops.decP 11 rfl (fun c11 => ?_) (fun c11 => ?_)
    · refine Ops.gu rfl rfl rfl (Dtu.mv (lk rfl)) rfl ?_
      refine Ops.gu rfl rfl rfl (Dtu.geq (lk rfl) (lk rfl)) rfl ?_
      refine Ops.u (Dtu.pickT (lk rfl) (lk rfl)) rfl ?_
      refine Ops.u (Dtu.mv (lk rfl)) rfl ?_
      refine Ops.decP 15 rfl (fun c15 => ?_) (fun c15 => ?_)
      · refine Ops.gu rfl rfl rfl (Dtu.mv (lk rfl)) rfl ?_
        refine Ops.gu rfl rfl rfl (Dtu.leq (lk rfl) (lk rfl)) rfl ?_
        refine Ops.u (Dtu.pickT (lk rfl) (lk rfl)) rfl ?_
        refine Ops.u (Dtu.asg (lk rfl)) rfl ?_
        refine Ops.nil ?_
        refine Then.next ?_
        refine Body.ret ?_
        (refine ⟨.inr rfl, _, pk [] rfl, bool_eq ?_, rfl⟩; simp [fitsG]; omega)
      · refine Ops.gn rfl rfl rfl rfl rfl ?_
        refine Ops.gn rfl rfl rfl rfl rfl ?_
        refine Ops.u (Dtu.pickF (lk rfl) (lk rfl)) rfl ?_
        refine Ops.u (Dtu.asg (lk rfl)) rfl ?_
        refine Ops.nil ?_
        refine Then.next ?_
        refine Body.ret ?_
        (refine ⟨.inr rfl, _, pk [] rfl, bool_eq ?_, rfl⟩; simp [fitsG]; omega)
    · refine Ops.gn rfl rfl rfl rfl rfl ?_
      refine Ops.gn rfl rfl rfl rfl rfl ?_
      refine Ops.u (Dtu.pickF (lk rfl) (lk rfl)) rfl ?_
      refine Ops.u (Dtu.mv (lk rfl)) rfl ?_
      refine Ops.gn rfl rfl rfl rfl rfl ?_
      refine Ops.gn rfl rfl rfl rfl rfl ?_
      refine Ops.u (Dtu.pickF (lk rfl) (lk rfl)) rfl ?_
      refine Ops.u (Dtu.asg (lk rfl)) rfl ?_
      refine Ops.nil ?_
      refine Then.next ?_
      refine Body.ret ?_
      (refine ⟨.inr rfl, _, pk [] rfl, bool_eq ?_, rfl⟩; simp [fitsG]; omega)
  · refine Ops.gn rfl rfl rfl rfl rfl ?_
    refine Ops.gn rfl rfl rfl rfl rfl ?_
    refine Ops.u (Dtu.pickF (lk rfl) (lk rfl)) rfl ?_
    refine Ops.u (Dtu.mv (lk rfl)) rfl ?_
    refine Ops.gn rfl rfl rfl rfl rfl ?_
    refine Ops.gn rfl rfl rfl rfl rfl ?_
    refine Ops.u (Dtu.pickF (lk rfl) (lk rfl)) rfl ?_
    refine Ops.u (Dtu.mv (lk rfl)) rfl ?_
    refine Ops.gn rfl rfl rfl rfl rfl ?_
    refine Ops.gn rfl rfl rfl rfl rfl ?_
    refine Ops.u (Dtu.pickF (lk rfl) (lk rfl)) rfl ?_
    refine Ops.u (Dtu.asg (lk rfl)) rfl ?_
    refine Ops.nil ?_
    refine Then.next ?_
    refine Body.ret ?_
    (refine ⟨.inr rfl, _, pk [] rfl, bool_eq ?_, rfl⟩; simp [fitsG]; omega)
theorem line_ok (E : Env) (k : Nat) (p f g b : Int) (hk : k ≤ 40) : Does Try.prog 74 #[.int .i64 k, .agg #[.int .i32 p, .int .u8 f, .int .u32 g, .int .u32 b]] E [] fun r H' => ∃ z1 z2 z3, r = .slice z1 z2 z3 ∧ H' = [osl 39 4 (.slice z1 z2 z3) k ((List.replicate k (Cell.mk p f g b)).flatMap Cell.enc)] := by
  refine Does.go (args := [.int .i64 k, .agg #[.int .i32 p, .int .u8 f, .int .u32 g, .int .u32 b]]) _ _ Try.func74 rfl Try.ntmps74 rfl rfl ?_
  refine Body.seq ?_
  refine Body.region ?_
  refine Ops.s (Stp.box (lk rfl) rfl (fun b3 => ?_)) rfl
  refine Ops.u (Dtu.asg (lk rfl)) rfl ?_
  refine Ops.nil ?_
  refine Then.next ?_
  refine Body.seq ?_
  refine Body.region ?_
  refine Ops.d (Det.lda Try.isAgg39 Try.sizeOf39 (lk rfl) (Rds.ow (m := 4) 0 rfl rfl) rfl) rfl ?_
  refine Ops.s (Stp.buildSliceO Try.underlying62 ty39 (by decide) (by decide) (lkp rfl) rfl rfl rfl (by decide) (fun v6 => ?_)) rfl
  refine Ops.u (Dtu.mv (lk rfl)) rfl ?_
  refine Ops.s (Stp.call rfl Try.call108 (lks rfl) (fun E' le hat => repeatC_ok E' _ (Cell.enc ⟨p, f, g, b⟩) k (Sl.at (t := 39) (hat _ (by simp [Cell.enc]))) rfl (by omega)) ?_) rfl
  rintro _ _ ⟨rfl, ⟨z1, z2, z3, rfl⟩⟩
  refine Ops.u (Dtu.asg (lk rfl)) rfl ?_
  refine Ops.nil ?_
  refine Then.next ?_
  refine Body.ret ?_
  exact ⟨.inr rfl, _, pk [0] rfl, z1, z2, z3, rfl, by rw [rep_flat]⟩
theorem line_row (E : Env) (cols : Int) (p f g b : Int) (h0 : 0 ≤ cols) (hk : cols ≤ 40) : Does Try.prog 74 #[.int .i64 cols, .agg #[.int .i32 p, .int .u8 f, .int .u32 g, .int .u32 b]] E [] fun r H' => ∃ z : Row, z.cs = List.replicate cols.toNat ⟨p, f, g, b⟩ ∧ r = .slice z.a z.m z.c ∧ H' = [z.own] := by
  obtain ⟨k, rfl⟩ := Int.eq_ofNat_of_zero_le h0
  refine (line_ok E k p f g b (by omega)).mono ?_
  rintro r H' ⟨z1, z2, z3, rfl, rfl⟩
  exact ⟨⟨z1, z2, z3, List.replicate k ⟨p, f, g, b⟩⟩, rfl, rfl, by simp [Row.own, Row.hd]⟩
/-- a grid's memory -/
abbrev gridA (b : Nat) (cols : Int) (a : Option Addr) (m c : Nat) (rs : List Row) : List HProp :=
  [own b [.int .i64 cols, .slice a m c] 61, osl 62 1 (.slice a m c) rs.length (rs.map Row.hd), many (rs.map Row.own)]
theorem many_map_snoc {E : Env} {r : Row} {rs : List Row} {H : List HProp} {w : World} (s : St E (r.own :: many (rs.map Row.own) :: H) w) : St E (many ((rs ++ [r]).map Row.own) :: H) w := by
  simpa using many_snoc s
structure GNew where
  i : Nat
  a : Option Addr
  m : Nat
  c : Nat
  rs : List Row
theorem gnew_ok (E : Env) (rows cols : Int) (hf : fitsG rows cols = true) : Does Try.prog 12 #[.int .i64 rows, .int .i64 cols] E [] fun r H' => ∃ b a c rs, rs.map Row.cs = List.replicate rows.toNat (List.replicate cols.toNat Cell.blank) ∧ r = .tuple #[.pointer (some ⟨b, 0, none⟩), .int .i64 0] ∧ H' = gridA b cols a rs.length c rs := by
  have hb : 1 ≤ rows ∧ rows ≤ 12 ∧ 1 ≤ cols ∧ cols ≤ 40 := by simpa [fitsG] using hf
  refine Does.go (args := [.int .i64 rows, .int .i64 cols]) _ _ Try.func12 rfl Try.ntmps12 rfl rfl ?_
  refine Body.seq ?_
  refine Body.region ?_
  refine Ops.u (Dtu.asg (lk rfl)) rfl ?_
  refine Ops.u (Dtu.asg (lk rfl)) rfl ?_
  refine Ops.nil ?_
  refine Then.next ?_
  refine Body.seq ?_
  refine Body.seq ?_
  refine Body.region ?_
  refine Ops.u (Dtu.mv (lk rfl)) rfl ?_
  refine Ops.u (Dtu.mv (lk rfl)) rfl ?_
  refine Ops.s (Stp.call rfl Try.call73 (lks rfl) (fun E' le hat => fits_ok E' _ _) ?_) rfl
  rintro _ _ ⟨rfl, rfl⟩
  refine Ops.u (Dtu.not (lk rfl)) rfl ?_
  refine Ops.nil ?_
  refine Then.next ?_
  refine Body.cond (lk rfl) (fun hn => absurd hn (by first | (rw [hf]; decide) | simp [hf])) (fun _ => ?_)
  refine Body.skip ?_
  refine Then.next ?_
  refine Body.seq ?_
  refine Body.region ?_
  refine Ops.u (Dtu.mv (lk rfl)) rfl ?_
  refine Ops.u (Dtu.build ty61 pl61 (lkp rfl) rfl rfl) rfl ?_
  refine Ops.s (Stp.box (lk rfl) rfl (fun b13 => ?_)) rfl
  refine Ops.u (Dtu.asg (lk rfl)) rfl ?_
  refine Ops.nil ?_
  refine Then.next ?_
  refine Body.seq ?_
  refine Body.seq ?_
  refine Body.region ?_
  refine Ops.u (Dtu.mv (lk rfl)) rfl ?_
  refine Ops.u (Dtu.mv (lk rfl)) rfl ?_
  refine Ops.nil ?_
  refine Then.next ?_
  refine Body.block ?_
  refine Body.conseq (H' := gridA b13 cols none 0 0 []) (fun w s => by have s2 := osl_nil (t := 62) (sz := 1) (a := none) (many_nil s); exact pk [2, 0, 0] rfl w s2) ?_
  refine Body.loopF (γ := GNew) rfl (fun g => [(15, .int .i64 g.i)]) (fun g => gridA b13 cols g.a g.m g.c g.rs) (fun g => (g.i : Int) ≤ rows ∧ g.rs.map Row.cs = List.replicate g.i (List.replicate cols.toNat Cell.blank)) (fun g => rows.toNat - g.i) ⟨0, none, 0, 0, []⟩ ⟨by dsimp only; omega, rfl⟩ ⟨rfl, trivial⟩ rfl ?_
  rintro ⟨i, a, m, c, rs⟩ u ⟨hi, hr⟩
  dsimp only at hi hr ⊢
  have hl : rs.length = i := by have := congrArg List.length hr; simpa using this
  refine Body.seq ?_
  refine Body.region ?_
  refine Ops.u (Dtu.lss (lk rfl) (lk rfl)) rfl ?_
  refine Ops.nil ?_
  refine Then.next ?_
  refine Body.seq ?_
  refine Body.condP (lk rfl) (fun c16 => ?_) (fun c16 => ?_)
  · refine Body.skip ?_
    refine Then.next ?_
    refine Body.seq ?_
    refine Body.block ?_
    refine Body.draw mixed ?_
    refine AB.u 0 rfl (by decide +kernel) (Dtu.mv (lk rfl)) rfl ?_
    refine AB.u 1 rfl (by decide +kernel) (Dtu.mv (lk rfl)) rfl ?_
    refine AB.u 2 rfl (by decide +kernel) (Dtu.nilck (lk rfl)) rfl ?_
    refine AB.u 3 rfl (by decide +kernel) (Dtu.fld fa61_1 (lk rfl)) rfl ?_
    refine AB.d 4 rfl (by decide +kernel) rfl (Det.ld Try.isAgg59 (lk rfl) (Rd.ow 0 rfl rfl)) rfl ?_
    refine AB.u 5 rfl (by decide +kernel) (Dtu.mv (lk rfl)) rfl ?_
    refine AB.s 6 rfl (by decide +kernel) (by decide +kernel) (Stp.call rfl Try.call24 (lks rfl) (fun E' le hat => blank_ok E') ?_) rfl
    rintro _ _ ⟨rfl, rfl⟩
    refine AB.s 7 rfl (by decide +kernel) (by decide +kernel) (Stp.call rfl Try.call74 (lks rfl) (fun E' le hat => line_row E' _ _ _ _ _ (by omega) (by omega)) ?_) rfl
    rintro _ _ ⟨z24, hz24, rfl, rfl⟩
    refine AB.s 8 rfl (by decide +kernel) (by decide +kernel) (Stp.buildSliceO Try.underlying59 ty62 (by decide) (by decide) (lkp rfl) rfl rfl rfl (by decide) (fun v25 => ?_)) rfl
    refine AB.s 9 rfl (by decide +kernel) (by decide +kernel) (Stp.append 3 Try.underlying59 ty62 rfl rfl (lk rfl) (lk rfl) (Sl.osl 0 rfl) (by first | rfl | exact all_map (fun _ => rfl) _ | exact all_flat (fun _ => rfl) _) (by omega) (by omega) (fun v26 => ?_)) rfl
    refine AB.u 10 rfl (by decide +kernel) (Dtu.nilck (lk rfl)) rfl ?_
    refine AB.u 11 rfl (by decide +kernel) (Dtu.fld fa61_1 (lk rfl)) rfl ?_
    refine AB.pure (Sl.isSl (Sl.osl 3 rfl)) fun hslv26 => ?_
    obtain ⟨v26a, v26m, v26c, rfl⟩ := hslv26
    refine AB.e 12 rfl (by decide +kernel) (by decide +kernel) (Stp.store 2 Try.sizeOf59 (lk rfl) (lk rfl) rfl rfl rfl rfl rfl rfl rfl ?_)
    refine AB.done (by decide +kernel) ?_
    refine Blk.norm ?_
    refine Then.next ?_
    refine Body.region ?_
    refine Ops.u (Dtu.add (lk rfl) (lk rfl) (w64 (by omega) (by omega))) rfl ?_
    refine Ops.u (Dtu.mv (lk rfl)) rfl ?_
    refine Ops.nil ?_
    have hlen : (rs ++ [z24]).length = rs.length + 1 := by simp
    have hfl : (rs ++ [z24]).map Row.hd = rs.map Row.hd ++ [Value.slice z24.a z24.m z24.c] := by simp [Row.hd]
    refine Round.goW ⟨i + 1, v26a, v26m, v26c, rs ++ [z24]⟩ rfl rfl rfl ⟨rfl, trivial⟩ (fun w s => ?_) ⟨by dsimp only; omega, ?_⟩ (by dsimp only; omega)
    · dsimp only
      unfold gridA
      rw [hlen, hfl]
      exact pk [1, 1, 0] rfl w (many_map_snoc (pk [1, 3, 1, 1] rfl w s))
    · dsimp only
      rw [List.map_append, hr, List.map_cons, List.map_nil, hz24, List.replicate_succ']; rfl
  · refine Body.pure (Sl.litLen (Sl.osl (t := 62) 1 rfl)) fun hm => ?_
    subst hm
    refine Body.exit ?_
    refine Then.exit ?_
    refine Round.exit ?_
    refine Blk.here ?_
    refine Then.next ?_
    refine Body.seq ?_
    refine Body.region ?_
    refine Ops.u (Dtu.mv (lk rfl)) rfl ?_
    refine Ops.u (Dtu.asg (lk rfl)) rfl ?_
    refine Ops.u (Dtu.asg (lk rfl)) rfl ?_
    refine Ops.nil ?_
    refine Then.next ?_
    refine Body.ret ?_
    have hir : i = rows.toNat := by omega
    exact ⟨.inr rfl, _, pk [0, 0, 0] rfl, b13, a, c, rs, by rw [hr, hir], rfl, rfl⟩
theorem gnew_no (E : Env) (rows cols : Int) (hf : fitsG rows cols = false) : Does Try.prog 12 #[.int .i64 rows, .int .i64 cols] E [] fun r H' => r = .tuple #[.pointer none, .int .i64 1] ∧ H' = [] := by
  refine Does.go (args := [.int .i64 rows, .int .i64 cols]) _ _ Try.func12 rfl Try.ntmps12 rfl rfl ?_
  refine Body.seq ?_
  refine Body.region ?_
  refine Ops.u (Dtu.asg (lk rfl)) rfl ?_
  refine Ops.u (Dtu.asg (lk rfl)) rfl ?_
  refine Ops.nil ?_
  refine Then.next ?_
  refine Body.seq ?_
  refine Body.seq ?_
  refine Body.region ?_
  refine Ops.u (Dtu.mv (lk rfl)) rfl ?_
  refine Ops.u (Dtu.mv (lk rfl)) rfl ?_
  refine Ops.s (Stp.call rfl Try.call73 (lks rfl) (fun E' le hat => fits_ok E' _ _) ?_) rfl
  rintro _ _ ⟨rfl, rfl⟩
  refine Ops.u (Dtu.not (lk rfl)) rfl ?_
  refine Ops.nil ?_
  refine Then.next ?_
  refine Body.cond (lk rfl) (fun _ => ?_) (fun hn => absurd hn (by first | (rw [hf]; decide) | simp [hf]))
  refine Body.seq ?_
  refine Body.region ?_
  refine Ops.u (Dtu.asg (lk rfl)) rfl ?_
  refine Ops.u (Dtu.asg (lk rfl)) rfl ?_
  refine Ops.nil ?_
  refine Then.next ?_
  refine Body.ret ?_
  refine Then.ret ?_
  exact ⟨.inr rfl, _, pk [] rfl, rfl, rfl⟩
end Go.Proofs.Ytpmapedhigjalaa
end
section
/- A grid: what is asked of it; a row taken out of all rows. -/
namespace Go.Proofs.Ytpmapedhigjalaa
set_option maxRecDepth 100000
set_option linter.unusedVariables false
set_option linter.unusedSimpArgs false
open Go.Sx

theorem erase_perm {α : Type} : ∀ (L : List α) (j : Nat) (h : j < L.length), L.Perm (L[j] :: L.eraseIdx j)
  | x :: L, 0, _ => by simp
  | x :: L, j + 1, h => by
    have := erase_perm L j (by simpa using h)
    simp only [List.getElem_cons_succ, List.eraseIdx_cons_succ]
    exact (this.cons x).trans (List.Perm.swap _ _ _)
theorem set_perm {α : Type} (y : α) : ∀ (L : List α) (j : Nat) (h : j < L.length), (L.set j y).Perm (y :: L.eraseIdx j)
  | x :: L, 0, _ => by simp
  | x :: L, j + 1, h => by
    have := set_perm y L j (by simpa using h)
    simp only [List.set_cons_succ, List.eraseIdx_cons_succ]
    exact (this.cons x).trans (List.Perm.swap _ _ _)
theorem many_perm {E : Env} {L M H : List HProp} {w : World} (p : L.Perm M) (s : St E (many L :: H) w) : St E (many M :: H) w :=
  many_iff.2 ((many_iff.1 s).perm (p.append_right H))
theorem many_cons {E : Env} {A : HProp} {L H : List HProp} {w : World} : St E (many (A :: L) :: H) w ↔ St E (A :: many L :: H) w := by
  rw [many_iff]
  constructor
  · intro s
    have s1 : St E (L ++ (A :: H)) w := s.perm List.perm_middle.symm
    exact (many_iff.2 s1).perm (List.Perm.swap _ _ _)
  · intro s
    have s1 := many_iff.1 (s.perm (List.Perm.swap _ _ _))
    exact s1.perm List.perm_middle
theorem rows_take {E : Env} {rs : List Row} {H : List HProp} {w : World} (j : Nat) (hj : j < rs.length) (s : St E (many (rs.map Row.own) :: H) w) : St E ((rs[j]!).own :: many ((rs.eraseIdx j).map Row.own) :: H) w := by
  have p := (erase_perm rs j hj).map Row.own
  have := many_cons.1 (many_perm (by simpa using p) s)
  rw [getElem!_pos rs j hj]
  exact this
theorem rows_put {E : Env} {rs : List Row} {H : List HProp} {w : World} (j : Nat) (hj : j < rs.length) (r : Row) (s : St E (r.own :: many ((rs.eraseIdx j).map Row.own) :: H) w) : St E (many ((rs.set j r).map Row.own) :: H) w := by
  have p := (set_perm r rs j hj).map Row.own
  exact many_perm (by simpa using p.symm) (many_cons.2 s)
theorem set_same (rs : List Row) (j : Nat) (hj : j < rs.length) : rs.set j rs[j]! = rs := by
  rw [getElem!_pos rs j hj, List.set_getElem_self]
theorem i64_eq {a b : Int} (h : a = b) : Value.int .i64 a = .int .i64 b := by rw [h]
/-- a row's cells are others -/
def setC (rs : List Row) (j : Nat) (cs : List Cell) : List Row := rs.set j ⟨rs[j]!.a, rs[j]!.m, rs[j]!.c, cs⟩
theorem setC_hd {rs : List Row} {j : Nat} (hj : j < rs.length) (cs : List Cell) : (setC rs j cs).map Row.hd = rs.map Row.hd := by
  unfold setC
  rw [List.map_set, getElem!_pos rs j hj]
  refine List.ext_getElem (by simp) fun i h1 h2 => ?_
  rw [List.getElem_set]
  split
  · rename_i e; subst e; simp [Row.hd]
  · rfl
theorem setC_len {rs : List Row} {j : Nat} (cs : List Cell) : (setC rs j cs).length = rs.length := by simp [setC]
theorem setC_cs {rs : List Row} {j : Nat} (cs : List Cell) : (setC rs j cs).map Row.cs = (rs.map Row.cs).set j cs := by simp [setC, List.map_set]
theorem setC_same {rs : List Row} {j : Nat} (hj : j < rs.length) : setC rs j rs[j]!.cs = rs := set_same rs j hj
theorem grid_putH {E : Env} {b : Nat} {cols : Int} {a : Option Addr} {m c : Nat} {rs : List Row} (j : Nat) (hj : j < rs.length) (cs : List Cell) (hc : cs.length = rs[j]!.cs.length) (w : World) {H : List HProp}
    (s : St E (osl 39 4 rs[j]!.hd rs[j]!.cs.length (cs.flatMap Cell.enc) :: many ((rs.eraseIdx j).map Row.own) :: own b [.int .i64 cols, .slice a m c] 61 :: osl 62 1 (.slice a m c) rs.length (rs.map Row.hd) :: H) w) : St E (gridA b cols a m c (setC rs j cs) ++ H) w := by
  unfold gridA
  rw [setC_hd hj, setC_len]
  have s1 : St E ((Row.mk rs[j]!.a rs[j]!.m rs[j]!.c cs).own :: many ((rs.eraseIdx j).map Row.own) :: ([own b [.int .i64 cols, .slice a m c] 61, osl 62 1 (.slice a m c) rs.length (rs.map Row.hd)] ++ H)) w := by
    unfold Row.own
    dsimp only
    rw [hc]
    exact s
  exact (rows_put j hj _ s1).perm (pick_perm (is := [1, 1, 0]) rfl)
theorem grid_put {E : Env} {b : Nat} {cols : Int} {a : Option Addr} {m c : Nat} {rs : List Row} (j : Nat) (hj : j < rs.length) (cs : List Cell) (hc : cs.length = rs[j]!.cs.length) (w : World)
    (s : St E [osl 39 4 rs[j]!.hd rs[j]!.cs.length (cs.flatMap Cell.enc), many ((rs.eraseIdx j).map Row.own), own b [.int .i64 cols, .slice a m c] 61, osl 62 1 (.slice a m c) rs.length (rs.map Row.hd)] w) : St E (gridA b cols a m c (setC rs j cs)) w := by
  have := grid_putH j hj cs hc w s
  simpa using this
theorem grid_take {E : Env} {b : Nat} {cols : Int} {a : Option Addr} {m c : Nat} {rs : List Row} (j : Nat) (hj : j < rs.length) (w : World) (s : St E (gridA b cols a m c rs) w) :
    St E [own b [.int .i64 cols, .slice a m c] 61, osl 62 1 (.slice a m c) rs.length (rs.map Row.hd), rs[j]!.own, many ((rs.eraseIdx j).map Row.own)] w :=
  pk [2, 2, 0, 0] rfl w (rows_take j hj (pk [2, 0, 0] rfl w s))
/-- what a grid's rows are -/
structure Fit (cols : Int) (rs : List Row) : Prop where
  n : 1 ≤ rs.length ∧ rs.length ≤ 12
  c : 1 ≤ cols ∧ cols ≤ 40
  r : ∀ r ∈ rs, (r.cs.length : Int) = cols
theorem Fit.at {cols : Int} {rs : List Row} (h : Fit cols rs) {j : Nat} (hj : j < rs.length) : (rs[j]!.cs.length : Int) = cols := by
  rw [getElem!_pos rs j hj]; exact h.r _ (List.getElem_mem hj)
theorem Fit.setC {cols : Int} {rs : List Row} (h : Fit cols rs) {j : Nat} {cs : List Cell} (hc : (cs.length : Int) = cols) : Fit cols (setC rs j cs) :=
  ⟨by rw [setC_len]; exact h.n, h.c, fun r hr => by
    rcases List.mem_or_eq_of_mem_set hr with h1 | h1
    · exact h.r r h1
    · rw [h1]; exact hc⟩
theorem gmade_ok (E : Env) (b : Nat) (cols : Int) (a : Option Addr) (m c : Nat) : Does Try.prog 85 #[.pointer (some ⟨b, 0, none⟩)] E [own b [.int .i64 cols, .slice a m c] 61] fun r H' => r = .bool (decide (0 < m)) ∧ H' = [own b [.int .i64 cols, .slice a m c] 61] := by
  refine Does.go (args := [.pointer (some ⟨b, 0, none⟩)]) _ _ Try.func85 rfl Try.ntmps85 rfl rfl ?_
  refine Body.seq ?_
  refine Body.region ?_
  refine Ops.u (Dtu.asg (lk rfl)) rfl ?_
  refine Ops.nil ?_
  refine Then.next ?_
  refine Body.seq ?_
  refine Body.region ?_
  refine Ops.u (Dtu.mv (lk rfl)) rfl ?_
  refine Ops.u (Dtu.neNil Try.underlying23 (lk rfl) (lk rfl)) rfl ?_
  refine Ops.u (Dtu.mv (lk rfl)) rfl ?_
  refine Ops.gu rfl rfl rfl (Dtu.mv (lk rfl)) rfl ?_
  refine Ops.gu rfl rfl rfl (Dtu.nilck (lk rfl)) rfl ?_
  refine Ops.gu rfl rfl rfl (Dtu.fld fa61_1 (lk rfl)) rfl ?_
  refine Ops.gd rfl rfl rfl (Det.ld Try.isAgg59 (lk rfl) (Rd.ow 0 rfl rfl)) rfl ?_
  refine Ops.gu rfl rfl rfl (Dtu.len Try.underlying59 (lk rfl)) rfl ?_
  refine Ops.gu rfl rfl rfl (Dtu.gtr (lk rfl) (lk rfl)) rfl ?_
  refine Ops.u (Dtu.pickT (lk rfl) (lk rfl)) rfl ?_
  refine Ops.u (Dtu.asg (lk rfl)) rfl ?_
  refine Ops.nil ?_
  refine Then.next ?_
  refine Body.ret ?_
  (refine ⟨.inr rfl, _, pk [0] rfl, bool_eq ?_, rfl⟩; simp)
def hasE (m : Nat) (cols row col : Int) : Int := if m = 0 then 6 else if 0 ≤ row ∧ row < m ∧ 0 ≤ col ∧ col < cols then 0 else 1
theorem ghas_ok (E : Env) (b : Nat) (cols : Int) (a : Option Addr) (m c : Nat) (row col : Int) : Does Try.prog 80 #[.pointer (some ⟨b, 0, none⟩), .int .i64 row, .int .i64 col] E [own b [.int .i64 cols, .slice a m c] 61] fun r H' => r = .int .i64 (hasE m cols row col) ∧ H' = [own b [.int .i64 cols, .slice a m c] 61] := by
  refine Does.go (args := [.pointer (some ⟨b, 0, none⟩), .int .i64 row, .int .i64 col]) _ _ Try.func80 rfl Try.ntmps80 rfl rfl ?_
  refine Body.seq ?_
  refine Body.region ?_
  refine Ops.u (Dtu.asg (lk rfl)) rfl ?_
  refine Ops.nil ?_
  refine Then.next ?_
  refine Body.seq ?_
  refine Body.block ?_
  refine Body.seq ?_
  refine Body.region ?_
  refine Ops.u (Dtu.mv (lk rfl)) rfl ?_
  refine Ops.s (Stp.callOwn [0] rfl rfl Try.call85 (lks rfl) (fun E' le hat => gmade_ok E' _ _ _ _ _) ?_) rfl
  rintro _ _ ⟨rfl, rfl⟩
  refine Ops.u (Dtu.notP (lk rfl)) rfl ?_
  refine Ops.u (Dtu.asg (lk rfl)) rfl ?_
  refine Ops.nil ?_
  refine Then.next ?_
  refine Body.condP (lk rfl) (fun c7 => ?_) (fun c7 => ?_)
  · refine Body.seq ?_
    refine Body.region ?_
    refine Ops.u (Dtu.asg (lk rfl)) rfl ?_
    refine Ops.nil ?_
    refine Then.next ?_
    refine Body.ret ?_
    refine Blk.ret ?_
    refine Then.ret ?_
    (refine ⟨.inr rfl, _, pk [0] rfl, i64_eq ?_, rfl⟩; unfold hasE; (repeat' split) <;> omega)
  · refine Body.seq ?_
    refine Body.region ?_
    refine Ops.u (Dtu.mv (lk rfl)) rfl ?_
    refine Ops.u (Dtu.lss (lk rfl) (lk rfl)) rfl ?_
    refine Ops.u (Dtu.mv (lk rfl)) rfl ?_
    refine Ops.decP 14 rfl (fun c14 => ?_) (fun c14 => ?_)
    · refine Ops.gn rfl rfl rfl rfl rfl ?_
      refine Ops.gn rfl rfl rfl rfl rfl ?_
      refine Ops.gn rfl rfl rfl rfl rfl ?_
      refine Ops.gn rfl rfl rfl rfl rfl ?_
      refine Ops.gn rfl rfl rfl rfl rfl ?_
      refine Ops.gn rfl rfl rfl rfl rfl ?_
      refine Ops.gn rfl rfl rfl rfl rfl ?_
      refine Ops.u (Dtu.pickT (lk rfl) (lk rfl)) rfl ?_
      refine Ops.u (Dtu.mv (lk rfl)) rfl ?_
      refine Ops.gn rfl rfl rfl rfl rfl ?_
      refine Ops.gn rfl rfl rfl rfl rfl ?_
      refine Ops.u (Dtu.pickT (lk rfl) (lk rfl)) rfl ?_
      refine Ops.u (Dtu.mv (lk rfl)) rfl ?_
      refine Ops.gn rfl rfl rfl rfl rfl ?_
      refine Ops.gn rfl rfl rfl rfl rfl ?_
      refine Ops.gn rfl rfl rfl rfl rfl ?_
      refine Ops.gn rfl rfl rfl rfl rfl ?_
      refine Ops.gn rfl rfl rfl rfl rfl ?_
      refine Ops.gn rfl rfl rfl rfl rfl ?_
      refine Ops.u (Dtu.pickT (lk rfl) (lk rfl)) rfl ?_
      refine Ops.u (Dtu.asg (lk rfl)) rfl ?_
      refine Ops.nil ?_
      refine Then.next ?_
      refine Body.condT (lk rfl) ?_
      refine Body.seq ?_
      refine Body.region ?_
      refine Ops.u (Dtu.asg (lk rfl)) rfl ?_
      refine Ops.nil ?_
      refine Then.next ?_
      refine Body.ret ?_
      refine Blk.ret ?_
      refine Then.ret ?_
      (refine ⟨.inr rfl, _, pk [0] rfl, i64_eq ?_, rfl⟩; unfold hasE; (repeat' split) <;> omega)
    · refine Ops.gu rfl rfl rfl (Dtu.mv (lk rfl)) rfl ?_
      refine Ops.gu rfl rfl rfl (Dtu.mv (lk rfl)) rfl ?_
      refine Ops.gu rfl rfl rfl (Dtu.nilck (lk rfl)) rfl ?_
      refine Ops.gu rfl rfl rfl (Dtu.fld fa61_1 (lk rfl)) rfl ?_
      refine Ops.gd rfl rfl rfl (Det.ld Try.isAgg59 (lk rfl) (Rd.ow 0 rfl rfl)) rfl ?_
      refine Ops.gu rfl rfl rfl (Dtu.len Try.underlying59 (lk rfl)) rfl ?_
      refine Ops.gu rfl rfl rfl (Dtu.geq (lk rfl) (lk rfl)) rfl ?_
      refine Ops.u (Dtu.pickF (lk rfl) (lk rfl)) rfl ?_
      refine Ops.u (Dtu.mv (lk rfl)) rfl ?_
      refine Ops.decP 23 rfl (fun c23 => ?_) (fun c23 => ?_)
      · refine Ops.gn rfl rfl rfl rfl rfl ?_
        refine Ops.gn rfl rfl rfl rfl rfl ?_
        refine Ops.u (Dtu.pickT (lk rfl) (lk rfl)) rfl ?_
        refine Ops.u (Dtu.mv (lk rfl)) rfl ?_
        refine Ops.gn rfl rfl rfl rfl rfl ?_
        refine Ops.gn rfl rfl rfl rfl rfl ?_
        refine Ops.gn rfl rfl rfl rfl rfl ?_
        refine Ops.gn rfl rfl rfl rfl rfl ?_
        refine Ops.gn rfl rfl rfl rfl rfl ?_
        refine Ops.gn rfl rfl rfl rfl rfl ?_
        refine Ops.u (Dtu.pickT (lk rfl) (lk rfl)) rfl ?_
        refine Ops.u (Dtu.asg (lk rfl)) rfl ?_
        refine Ops.nil ?_
        refine Then.next ?_
        refine Body.condT (lk rfl) ?_
        refine Body.seq ?_
        refine Body.region ?_
        refine Ops.u (Dtu.asg (lk rfl)) rfl ?_
        refine Ops.nil ?_
        refine Then.next ?_
        refine Body.ret ?_
        refine Blk.ret ?_
        refine Then.ret ?_
        (refine ⟨.inr rfl, _, pk [0] rfl, i64_eq ?_, rfl⟩; unfold hasE; (repeat' split) <;> omega)
      · refine Ops.gu rfl rfl rfl (Dtu.mv (lk rfl)) rfl ?_
        refine Ops.gu rfl rfl rfl (Dtu.lss (lk rfl) (lk rfl)) rfl ?_
        refine Ops.u (Dtu.pickF (lk rfl) (lk rfl)) rfl ?_
        refine Ops.u (Dtu.mv (lk rfl)) rfl ?_
        refine Ops.decP 27 rfl (fun c27 => ?_) (fun c27 => ?_)
        · refine Ops.gn rfl rfl rfl rfl rfl ?_
          refine Ops.gn rfl rfl rfl rfl rfl ?_
          refine Ops.gn rfl rfl rfl rfl rfl ?_
          refine Ops.gn rfl rfl rfl rfl rfl ?_
          refine Ops.gn rfl rfl rfl rfl rfl ?_
          refine Ops.gn rfl rfl rfl rfl rfl ?_
          refine Ops.u (Dtu.pickT (lk rfl) (lk rfl)) rfl ?_
          refine Ops.u (Dtu.asg (lk rfl)) rfl ?_
          refine Ops.nil ?_
          refine Then.next ?_
          refine Body.condT (lk rfl) ?_
          refine Body.seq ?_
          refine Body.region ?_
          refine Ops.u (Dtu.asg (lk rfl)) rfl ?_
          refine Ops.nil ?_
          refine Then.next ?_
          refine Body.ret ?_
          refine Blk.ret ?_
          refine Then.ret ?_
          (refine ⟨.inr rfl, _, pk [0] rfl, i64_eq ?_, rfl⟩; unfold hasE; (repeat' split) <;> omega)
        · refine Ops.gu rfl rfl rfl (Dtu.mv (lk rfl)) rfl ?_
          refine Ops.gu rfl rfl rfl (Dtu.mv (lk rfl)) rfl ?_
          refine Ops.gu rfl rfl rfl (Dtu.nilck (lk rfl)) rfl ?_
          refine Ops.gu rfl rfl rfl (Dtu.fld fa61_0 (lk rfl)) rfl ?_
          refine Ops.gd rfl rfl rfl (Det.ld Try.isAgg3 (lk rfl) (Rd.ow 0 rfl rfl)) rfl ?_
          refine Ops.gu rfl rfl rfl (Dtu.geq (lk rfl) (lk rfl)) rfl ?_
          refine Ops.u (Dtu.pickF (lk rfl) (lk rfl)) rfl ?_
          refine Ops.u (Dtu.asg (lk rfl)) rfl ?_
          refine Ops.nil ?_
          refine Then.next ?_
          refine Body.condP (lk rfl) (fun c11 => ?_) (fun c11 => ?_)
          · refine Body.seq ?_
            refine Body.region ?_
            refine Ops.u (Dtu.asg (lk rfl)) rfl ?_
            refine Ops.nil ?_
            refine Then.next ?_
            refine Body.ret ?_
            refine Blk.ret ?_
            refine Then.ret ?_
            (refine ⟨.inr rfl, _, pk [0] rfl, i64_eq ?_, rfl⟩; unfold hasE; (repeat' split) <;> omega)
          · refine Body.skip ?_
            refine Blk.norm ?_
            refine Then.next ?_
            refine Body.seq ?_
            refine Body.region ?_
            refine Ops.u (Dtu.asg (lk rfl)) rfl ?_
            refine Ops.nil ?_
            refine Then.next ?_
            refine Body.ret ?_
            (refine ⟨.inr rfl, _, pk [0] rfl, i64_eq ?_, rfl⟩; unfold hasE; (repeat' split) <;> omega)
def rowsE (m : Nat) (top bottom n : Int) : Int := if m = 0 then 6 else if 0 ≤ top ∧ top ≤ bottom ∧ bottom < m ∧ 0 ≤ n then 0 else 1
theorem grows_ok (E : Env) (b : Nat) (cols : Int) (a : Option Addr) (m c : Nat) (top bottom n : Int) : Does Try.prog 82 #[.pointer (some ⟨b, 0, none⟩), .int .i64 top, .int .i64 bottom, .int .i64 n] E [own b [.int .i64 cols, .slice a m c] 61] fun r H' => r = .int .i64 (rowsE m top bottom n) ∧ H' = [own b [.int .i64 cols, .slice a m c] 61] := by
  refine Does.go (args := [.pointer (some ⟨b, 0, none⟩), .int .i64 top, .int .i64 bottom, .int .i64 n]) _ _ Try.func82 rfl Try.ntmps82 rfl rfl ?_
  refine Body.seq ?_
  refine Body.region ?_
  refine Ops.u (Dtu.asg (lk rfl)) rfl ?_
  refine Ops.nil ?_
  refine Then.next ?_
  refine Body.seq ?_
  refine Body.block ?_
  refine Body.seq ?_
  refine Body.region ?_
  refine Ops.u (Dtu.mv (lk rfl)) rfl ?_
  refine Ops.s (Stp.callOwn [0] rfl rfl Try.call85 (lks rfl) (fun E' le hat => gmade_ok E' _ _ _ _ _) ?_) rfl
  rintro _ _ ⟨rfl, rfl⟩
  refine Ops.u (Dtu.notP (lk rfl)) rfl ?_
  refine Ops.u (Dtu.asg (lk rfl)) rfl ?_
  refine Ops.nil ?_
  refine Then.next ?_
  refine Body.condP (lk rfl) (fun c9 => ?_) (fun c9 => ?_)
  · refine Body.seq ?_
    refine Body.region ?_
    refine Ops.u (Dtu.asg (lk rfl)) rfl ?_
    refine Ops.nil ?_
    refine Then.next ?_
    refine Body.ret ?_
    refine Blk.ret ?_
    refine Then.ret ?_
    (refine ⟨.inr rfl, _, pk [0] rfl, i64_eq ?_, rfl⟩; unfold rowsE; (repeat' split) <;> omega)
  · refine Body.seq ?_
    refine Body.region ?_
    refine Ops.u (Dtu.mv (lk rfl)) rfl ?_
    refine Ops.u (Dtu.lss (lk rfl) (lk rfl)) rfl ?_
    refine Ops.u (Dtu.mv (lk rfl)) rfl ?_
    refine Ops.decP 16 rfl (fun c16 => ?_) (fun c16 => ?_)
    · refine Ops.gn rfl rfl rfl rfl rfl ?_
      refine Ops.gn rfl rfl rfl rfl rfl ?_
      refine Ops.gn rfl rfl rfl rfl rfl ?_
      refine Ops.u (Dtu.pickT (lk rfl) (lk rfl)) rfl ?_
      refine Ops.u (Dtu.mv (lk rfl)) rfl ?_
      refine Ops.gn rfl rfl rfl rfl rfl ?_
      refine Ops.gn rfl rfl rfl rfl rfl ?_
      refine Ops.gn rfl rfl rfl rfl rfl ?_
      refine Ops.gn rfl rfl rfl rfl rfl ?_
      refine Ops.gn rfl rfl rfl rfl rfl ?_
      refine Ops.gn rfl rfl rfl rfl rfl ?_
      refine Ops.gn rfl rfl rfl rfl rfl ?_
      refine Ops.u (Dtu.pickT (lk rfl) (lk rfl)) rfl ?_
      refine Ops.u (Dtu.mv (lk rfl)) rfl ?_
      refine Ops.gn rfl rfl rfl rfl rfl ?_
      refine Ops.gn rfl rfl rfl rfl rfl ?_
      refine Ops.u (Dtu.pickT (lk rfl) (lk rfl)) rfl ?_
      refine Ops.u (Dtu.asg (lk rfl)) rfl ?_
      refine Ops.nil ?_
      refine Then.next ?_
      refine Body.condT (lk rfl) ?_
      refine Body.seq ?_
      refine Body.region ?_
      refine Ops.u (Dtu.asg (lk rfl)) rfl ?_
      refine Ops.nil ?_
      refine Then.next ?_
      refine Body.ret ?_
      refine Blk.ret ?_
      refine Then.ret ?_
      (refine ⟨.inr rfl, _, pk [0] rfl, i64_eq ?_, rfl⟩; unfold rowsE; (repeat' split) <;> omega)
    · refine Ops.gu rfl rfl rfl (Dtu.mv (lk rfl)) rfl ?_
      refine Ops.gu rfl rfl rfl (Dtu.mv (lk rfl)) rfl ?_
      refine Ops.gu rfl rfl rfl (Dtu.gtr (lk rfl) (lk rfl)) rfl ?_
      refine Ops.u (Dtu.pickF (lk rfl) (lk rfl)) rfl ?_
      refine Ops.u (Dtu.mv (lk rfl)) rfl ?_
      refine Ops.decP 21 rfl (fun c21 => ?_) (fun c21 => ?_)
      · refine Ops.gn rfl rfl rfl rfl rfl ?_
        refine Ops.gn rfl rfl rfl rfl rfl ?_
        refine Ops.gn rfl rfl rfl rfl rfl ?_
        refine Ops.gn rfl rfl rfl rfl rfl ?_
        refine Ops.gn rfl rfl rfl rfl rfl ?_
        refine Ops.gn rfl rfl rfl rfl rfl ?_
        refine Ops.gn rfl rfl rfl rfl rfl ?_
        refine Ops.u (Dtu.pickT (lk rfl) (lk rfl)) rfl ?_
        refine Ops.u (Dtu.mv (lk rfl)) rfl ?_
        refine Ops.gn rfl rfl rfl rfl rfl ?_
        refine Ops.gn rfl rfl rfl rfl rfl ?_
        refine Ops.u (Dtu.pickT (lk rfl) (lk rfl)) rfl ?_
        refine Ops.u (Dtu.asg (lk rfl)) rfl ?_
        refine Ops.nil ?_
        refine Then.next ?_
        refine Body.condT (lk rfl) ?_
        refine Body.seq ?_
        refine Body.region ?_
        refine Ops.u (Dtu.asg (lk rfl)) rfl ?_
        refine Ops.nil ?_
        refine Then.next ?_
        refine Body.ret ?_
        refine Blk.ret ?_
        refine Then.ret ?_
        (refine ⟨.inr rfl, _, pk [0] rfl, i64_eq ?_, rfl⟩; unfold rowsE; (repeat' split) <;> omega)
      · refine Ops.gu rfl rfl rfl (Dtu.mv (lk rfl)) rfl ?_
        refine Ops.gu rfl rfl rfl (Dtu.mv (lk rfl)) rfl ?_
        refine Ops.gu rfl rfl rfl (Dtu.nilck (lk rfl)) rfl ?_
        refine Ops.gu rfl rfl rfl (Dtu.fld fa61_1 (lk rfl)) rfl ?_
        refine Ops.gd rfl rfl rfl (Det.ld Try.isAgg59 (lk rfl) (Rd.ow 0 rfl rfl)) rfl ?_
        refine Ops.gu rfl rfl rfl (Dtu.len Try.underlying59 (lk rfl)) rfl ?_
        refine Ops.gu rfl rfl rfl (Dtu.geq (lk rfl) (lk rfl)) rfl ?_
        refine Ops.u (Dtu.pickF (lk rfl) (lk rfl)) rfl ?_
        refine Ops.u (Dtu.mv (lk rfl)) rfl ?_
        refine Ops.decP 30 rfl (fun c30 => ?_) (fun c30 => ?_)
        · refine Ops.gn rfl rfl rfl rfl rfl ?_
          refine Ops.gn rfl rfl rfl rfl rfl ?_
          refine Ops.u (Dtu.pickT (lk rfl) (lk rfl)) rfl ?_
          refine Ops.u (Dtu.asg (lk rfl)) rfl ?_
          refine Ops.nil ?_
          refine Then.next ?_
          refine Body.condT (lk rfl) ?_
          refine Body.seq ?_
          refine Body.region ?_
          refine Ops.u (Dtu.asg (lk rfl)) rfl ?_
          refine Ops.nil ?_
          refine Then.next ?_
          refine Body.ret ?_
          refine Blk.ret ?_
          refine Then.ret ?_
          (refine ⟨.inr rfl, _, pk [0] rfl, i64_eq ?_, rfl⟩; unfold rowsE; (repeat' split) <;> omega)
        · refine Ops.gu rfl rfl rfl (Dtu.mv (lk rfl)) rfl ?_
          refine Ops.gu rfl rfl rfl (Dtu.lss (lk rfl) (lk rfl)) rfl ?_
          refine Ops.u (Dtu.pickF (lk rfl) (lk rfl)) rfl ?_
          refine Ops.u (Dtu.asg (lk rfl)) rfl ?_
          refine Ops.nil ?_
          refine Then.next ?_
          refine Body.condP (lk rfl) (fun c13 => ?_) (fun c13 => ?_)
          · refine Body.seq ?_
            refine Body.region ?_
            refine Ops.u (Dtu.asg (lk rfl)) rfl ?_
            refine Ops.nil ?_
            refine Then.next ?_
            refine Body.ret ?_
            refine Blk.ret ?_
            refine Then.ret ?_
            (refine ⟨.inr rfl, _, pk [0] rfl, i64_eq ?_, rfl⟩; unfold rowsE; (repeat' split) <;> omega)
          · refine Body.skip ?_
            refine Blk.norm ?_
            refine Then.next ?_
            refine Body.seq ?_
            refine Body.region ?_
            refine Ops.u (Dtu.asg (lk rfl)) rfl ?_
            refine Ops.nil ?_
            refine Then.next ?_
            refine Body.ret ?_
            (refine ⟨.inr rfl, _, pk [0] rfl, i64_eq ?_, rfl⟩; unfold rowsE; (repeat' split) <;> omega)
end Go.Proofs.Ytpmapedhigjalaa
end
section
/- A grid: At, Put, Line, Fill. -/
namespace Go.Proofs.Ytpmapedhigjalaa
set_option maxRecDepth 100000
set_option linter.unusedVariables false
set_option linter.unusedSimpArgs false
open Go.Sx

theorem gat_no (E : Env) (b : Nat) (cols : Int) (a : Option Addr) (m c : Nat) (row col : Int) (h : hasE m cols row col ≠ 0) : Does Try.prog 16 #[.pointer (some ⟨b, 0, none⟩), .int .i64 row, .int .i64 col] E [own b [.int .i64 cols, .slice a m c] 61] fun r H' => r = .tuple #[.agg #[.int .i32 0, .int .u8 0, .int .u32 0, .int .u32 0], .int .i64 (hasE m cols row col)] ∧ H' = [own b [.int .i64 cols, .slice a m c] 61] := by
  refine Does.go (args := [.pointer (some ⟨b, 0, none⟩), .int .i64 row, .int .i64 col]) _ _ Try.func16 rfl Try.ntmps16 rfl rfl ?_
  refine Body.seq ?_
  refine Body.region ?_
  refine Ops.s (Stp.alloc ty39 (fun b6 => ?_)) rfl
  refine Ops.u (Dtu.asg (lk rfl)) rfl ?_
  refine Ops.nil ?_
  refine Then.next ?_
  refine Body.seq ?_
  refine Body.seq ?_
  refine Body.region ?_
  refine Ops.u (Dtu.mv (lk rfl)) rfl ?_
  refine Ops.u (Dtu.mv (lk rfl)) rfl ?_
  refine Ops.u (Dtu.mv (lk rfl)) rfl ?_
  refine Ops.s (Stp.callOwn [1] rfl rfl Try.call80 (lks rfl) (fun E' le hat => ghas_ok E' _ _ _ _ _ _ _) ?_) rfl
  rintro _ _ ⟨rfl, rfl⟩
  refine Ops.u (Dtu.asg (lk rfl)) rfl ?_
  refine Ops.nil ?_
  refine Then.next ?_
  refine Body.seq ?_
  refine Body.region ?_
  refine Ops.u (Dtu.mv (lk rfl)) rfl ?_
  refine Ops.u (Dtu.neq (lk rfl) (lk rfl)) rfl ?_
  refine Ops.nil ?_
  refine Then.next ?_
  refine Body.condP (lk rfl) (fun _ => ?_) (fun hn => absurd (by first | omega | assumption | decide) hn)
  refine Body.seq ?_
  refine Body.region ?_
  refine Ops.u (Dtu.build ty39 pl39 (lkp rfl) rfl rfl) rfl ?_
  refine Ops.u (Dtu.mv (lk rfl)) rfl ?_
  refine Ops.e (Stp.store 1 Try.sizeOf39 (lk rfl) (lk rfl) rfl rfl rfl rfl rfl rfl rfl ?_)
  refine Ops.u (Dtu.asg (lk rfl)) rfl ?_
  refine Ops.nil ?_
  refine Then.next ?_
  refine Body.ret ?_
  refine Then.ret ?_
  exact ⟨.inr rfl, _, Loads.agg Try.isAgg39 Try.sizeOf39 (Rds.ow (m := 4) 1 rfl rfl) rfl, _, pk [0] rfl, rfl, rfl⟩
theorem has_yes {m : Nat} {cols row col : Int} (h : hasE m cols row col = 0) : 0 < m ∧ 0 ≤ row ∧ row < m ∧ 0 ≤ col ∧ col < cols := by
  unfold hasE at h; (repeat' split at h) <;> omega
theorem gat_ok (E : Env) (b : Nat) (cols : Int) (a : Option Addr) (m c : Nat) (rs : List Row) (hr : Fit cols rs) (row col : Nat) (h : hasE rs.length cols row col = 0) : Does Try.prog 16 #[.pointer (some ⟨b, 0, none⟩), .int .i64 row, .int .i64 col] E (gridA b cols a m c rs) fun r H' => r = .tuple #[.agg (rs[row]!.cs[col]!).enc.toArray, .int .i64 0] ∧ H' = gridA b cols a m c rs := by
  have hh := has_yes h
  have hrow : row < rs.length := by omega
  have hl := hr.at hrow
  refine Does.pure (Sl.litLen (Sl.osl (t := 62) 1 rfl)) fun hm => ?_
  subst hm
  refine Does.conseq (grid_take row hrow) ?_
  refine Does.go (args := [.pointer (some ⟨b, 0, none⟩), .int .i64 row, .int .i64 col]) _ _ Try.func16 rfl Try.ntmps16 rfl rfl ?_
  refine Body.seq ?_
  refine Body.region ?_
  refine Ops.s (Stp.alloc ty39 (fun b6 => ?_)) rfl
  refine Ops.u (Dtu.asg (lk rfl)) rfl ?_
  refine Ops.nil ?_
  refine Then.next ?_
  refine Body.seq ?_
  refine Body.seq ?_
  refine Body.region ?_
  refine Ops.u (Dtu.mv (lk rfl)) rfl ?_
  refine Ops.u (Dtu.mv (lk rfl)) rfl ?_
  refine Ops.u (Dtu.mv (lk rfl)) rfl ?_
  refine Ops.s (Stp.callOwn [1] rfl rfl Try.call80 (lks rfl) (fun E' le hat => ghas_ok E' _ _ _ _ _ _ _) ?_) rfl
  rintro _ _ ⟨rfl, rfl⟩
  refine Ops.u (Dtu.asg (lk rfl)) rfl ?_
  refine Ops.nil ?_
  refine Then.next ?_
  refine Body.seq ?_
  refine Body.region ?_
  refine Ops.u (Dtu.mv (lk rfl)) rfl ?_
  refine Ops.u (Dtu.neq (lk rfl) (lk rfl)) rfl ?_
  refine Ops.nil ?_
  refine Then.next ?_
  refine Body.condP (lk rfl) (fun hy => absurd hy (by first | omega | assumption | decide)) (fun _ => ?_)
  refine Body.skip ?_
  refine Then.next ?_
  refine Body.seq ?_
  refine Body.region ?_
  refine Ops.u (Dtu.mv (lk rfl)) rfl ?_
  refine Ops.u (Dtu.nilck (lk rfl)) rfl ?_
  refine Ops.u (Dtu.fld fa61_1 (lk rfl)) rfl ?_
  refine Ops.d (Det.ld Try.isAgg59 (lk rfl) (Rd.ow 0 rfl rfl)) rfl ?_
  refine Ops.u (Dtu.mv (lk rfl)) rfl ?_
  refine Ops.u (Dtu.ix (i := (row)) Try.underlying59 Try.sizeOf62 (Sl.osl 2 rfl) (lk rfl) (lk rfl) (by omega) (by omega)) rfl ?_
  refine Ops.d (Det.ld Try.isAgg62 (lk rfl) (Rd.sl (Sl.osl 2 rfl) (gm (by omega)))) rfl ?_
  refine Ops.u (Dtu.mv (lk rfl)) rfl ?_
  refine Ops.u (Dtu.ix (i := (col)) Try.underlying62 Try.sizeOf39 (Sl.osl 3 rfl) (lk rfl) (lk rfl) (by omega) (by omega)) rfl ?_
  refine Ops.d (Det.lda Try.isAgg39 Try.sizeOf39 (lk rfl) (Rds.sl (Sl.osl 3 rfl) (gf (sz := 4) (fun _ => rfl) (by omega))) rfl) rfl ?_
  refine Ops.e (Stp.store 1 Try.sizeOf39 (lk rfl) (lk rfl) rfl rfl rfl rfl rfl rfl rfl ?_)
  refine Ops.u (Dtu.asg (lk rfl)) rfl ?_
  refine Ops.nil ?_
  refine Then.next ?_
  refine Body.ret ?_
  refine ⟨.inr rfl, _, Loads.agg Try.isAgg39 Try.sizeOf39 (Rds.ow (m := 4) 1 rfl rfl) rfl, _, fun w s => ?_, rfl, rfl⟩
  have s2 := grid_put row hrow _ rfl w (pk [3, 3, 0, 1] rfl w s)
  rw [setC_same hrow] at s2
  exact s2
theorem gput_no (E : Env) (b : Nat) (cols : Int) (a : Option Addr) (m c : Nat) (row col : Int) (p f g q : Int) (h : hasE m cols row col ≠ 0) : Does Try.prog 29 #[.pointer (some ⟨b, 0, none⟩), .int .i64 row, .int .i64 col, .agg #[.int .i32 p, .int .u8 f, .int .u32 g, .int .u32 q]] E [own b [.int .i64 cols, .slice a m c] 61] fun r H' => r = .int .i64 (hasE m cols row col) ∧ H' = [own b [.int .i64 cols, .slice a m c] 61] := by
  refine Does.go (args := [.pointer (some ⟨b, 0, none⟩), .int .i64 row, .int .i64 col, .agg #[.int .i32 p, .int .u8 f, .int .u32 g, .int .u32 q]]) _ _ Try.func29 rfl Try.ntmps29 rfl rfl ?_
  refine Body.seq ?_
  refine Body.region ?_
  refine Ops.s (Stp.box (lk rfl) rfl (fun b7 => ?_)) rfl
  refine Ops.u (Dtu.asg (lk rfl)) rfl ?_
  refine Ops.nil ?_
  refine Then.next ?_
  refine Body.seq ?_
  refine Body.region ?_
  refine Ops.u (Dtu.mv (lk rfl)) rfl ?_
  refine Ops.u (Dtu.mv (lk rfl)) rfl ?_
  refine Ops.u (Dtu.mv (lk rfl)) rfl ?_
  refine Ops.s (Stp.callOwn [1] rfl rfl Try.call80 (lks rfl) (fun E' le hat => ghas_ok E' _ _ _ _ _ _ _) ?_) rfl
  rintro _ _ ⟨rfl, rfl⟩
  refine Ops.u (Dtu.asg (lk rfl)) rfl ?_
  refine Ops.nil ?_
  refine Then.next ?_
  refine Body.seq ?_
  refine Body.seq ?_
  refine Body.region ?_
  refine Ops.u (Dtu.mv (lk rfl)) rfl ?_
  refine Ops.u (Dtu.eql (lk rfl) (lk rfl)) rfl ?_
  refine Ops.nil ?_
  refine Then.next ?_
  refine Body.condP (lk rfl) (fun hy => absurd hy (by first | omega | assumption | decide)) (fun _ => ?_)
  refine Body.skip ?_
  refine Then.next ?_
  refine Body.seq ?_
  refine Body.region ?_
  refine Ops.u (Dtu.mv (lk rfl)) rfl ?_
  refine Ops.u (Dtu.asg (lk rfl)) rfl ?_
  refine Ops.nil ?_
  refine Then.next ?_
  refine Body.ret ?_
  exact ⟨.inr rfl, _, pk [0] rfl, rfl, rfl⟩
theorem gput_ok (E : Env) (b : Nat) (cols : Int) (a : Option Addr) (m c : Nat) (rs : List Row) (hr : Fit cols rs) (row col : Nat) (p f g q : Int) (h : hasE rs.length cols row col = 0) : Does Try.prog 29 #[.pointer (some ⟨b, 0, none⟩), .int .i64 row, .int .i64 col, .agg #[.int .i32 p, .int .u8 f, .int .u32 g, .int .u32 q]] E (gridA b cols a m c rs) fun r H' => r = .int .i64 0 ∧ H' = gridA b cols a m c (setC rs row (rs[row]!.cs.set col ⟨p, f, g, q⟩)) := by
  have hh := has_yes h
  have hrow : row < rs.length := by omega
  have hl := hr.at hrow
  refine Does.pure (Sl.litLen (Sl.osl (t := 62) 1 rfl)) fun hm => ?_
  subst hm
  refine Does.conseq (grid_take row hrow) ?_
  refine Does.go (args := [.pointer (some ⟨b, 0, none⟩), .int .i64 row, .int .i64 col, .agg #[.int .i32 p, .int .u8 f, .int .u32 g, .int .u32 q]]) _ _ Try.func29 rfl Try.ntmps29 rfl rfl ?_
  refine Body.seq ?_
  refine Body.region ?_
  refine Ops.s (Stp.box (lk rfl) rfl (fun b7 => ?_)) rfl
  refine Ops.u (Dtu.asg (lk rfl)) rfl ?_
  refine Ops.nil ?_
  refine Then.next ?_
  refine Body.seq ?_
  refine Body.region ?_
  refine Ops.u (Dtu.mv (lk rfl)) rfl ?_
  refine Ops.u (Dtu.mv (lk rfl)) rfl ?_
  refine Ops.u (Dtu.mv (lk rfl)) rfl ?_
  refine Ops.s (Stp.callOwn [1] rfl rfl Try.call80 (lks rfl) (fun E' le hat => ghas_ok E' _ _ _ _ _ _ _) ?_) rfl
  rintro _ _ ⟨rfl, rfl⟩
  refine Ops.u (Dtu.asg (lk rfl)) rfl ?_
  refine Ops.nil ?_
  refine Then.next ?_
  refine Body.seq ?_
  refine Body.seq ?_
  refine Body.region ?_
  refine Ops.u (Dtu.mv (lk rfl)) rfl ?_
  refine Ops.u (Dtu.eql (lk rfl) (lk rfl)) rfl ?_
  refine Ops.nil ?_
  refine Then.next ?_
  refine Body.condP (lk rfl) (fun _ => ?_) (fun hn => absurd (by first | omega | assumption | decide) hn)
  refine Body.draw mixed ?_
  refine AB.u 0 rfl (by decide +kernel) (Dtu.mv (lk rfl)) rfl ?_
  refine AB.u 1 rfl (by decide +kernel) (Dtu.nilck (lk rfl)) rfl ?_
  refine AB.u 2 rfl (by decide +kernel) (Dtu.fld fa61_1 (lk rfl)) rfl ?_
  refine AB.d 3 rfl (by decide +kernel) rfl (Det.ld Try.isAgg59 (lk rfl) (Rd.ow 0 rfl rfl)) rfl ?_
  refine AB.u 4 rfl (by decide +kernel) (Dtu.mv (lk rfl)) rfl ?_
  refine AB.u 5 rfl (by decide +kernel) (Dtu.ix (i := (row)) Try.underlying59 Try.sizeOf62 (Sl.osl 2 rfl) (lk rfl) (lk rfl) (by omega) (by omega)) rfl ?_
  refine AB.d 6 rfl (by decide +kernel) rfl (Det.ld Try.isAgg62 (lk rfl) (Rd.sl (Sl.osl 2 rfl) (gm (by omega)))) rfl ?_
  refine AB.u 7 rfl (by decide +kernel) (Dtu.mv (lk rfl)) rfl ?_
  refine AB.d 8 rfl (by decide +kernel) rfl (Det.lda Try.isAgg39 Try.sizeOf39 (lk rfl) (Rds.ow (m := 4) 1 rfl rfl) rfl) rfl ?_
  refine AB.u 9 rfl (by decide +kernel) (Dtu.ix (i := (col)) Try.underlying62 Try.sizeOf39 (Sl.osl 3 rfl) (lk rfl) (lk rfl) (by omega) (by omega)) rfl ?_
  refine AB.e 10 rfl (by decide +kernel) (by decide +kernel) (Stp.storeF 3 (en := Cell.enc) (y := ⟨_, _, _, _⟩) (fun _ => rfl) Try.sizeOf39 rfl (lk rfl) (lk rfl) rfl (by omega) (by omega) rfl ?_)
  refine AB.done (by decide +kernel) ?_
  refine Then.next ?_
  refine Body.seq ?_
  refine Body.region ?_
  refine Ops.u (Dtu.mv (lk rfl)) rfl ?_
  refine Ops.u (Dtu.asg (lk rfl)) rfl ?_
  refine Ops.nil ?_
  refine Then.next ?_
  refine Body.ret ?_
  exact ⟨.inr rfl, _, fun w s => grid_put row hrow _ (by simp) w (pk [3, 3, 0, 1] rfl w s), by rw [← h]; rfl, rfl⟩
theorem gline_ok (E : Env) (b : Nat) (cols : Int) (a : Option Addr) (m c : Nat) (rs : List Row) (hr : Fit cols rs) (row : Nat) (h : hasE rs.length cols row 0 = 0) : Does Try.prog 28 #[.pointer (some ⟨b, 0, none⟩), .int .i64 row] E (gridA b cols a m c rs) fun r H' => ∃ z1 z3, r = .tuple #[.slice z1 rs[row]!.cs.length z3, .int .i64 0] ∧ H' = gridA b cols a m c rs ++ [osl 39 4 (.slice z1 rs[row]!.cs.length z3) rs[row]!.cs.length (rs[row]!.cs.flatMap Cell.enc)] := by
  have hh := has_yes h
  have hrow : row < rs.length := by omega
  have hl := hr.at hrow
  have hc := hr.c
  refine Does.pure (Sl.litLen (Sl.osl (t := 62) 1 rfl)) fun hm => ?_
  subst hm
  refine Does.conseq (grid_take row hrow) ?_
  refine Does.go (args := [.pointer (some ⟨b, 0, none⟩), .int .i64 row]) _ _ Try.func28 rfl Try.ntmps28 rfl rfl ?_
  refine Body.seq ?_
  refine Body.region ?_
  refine Ops.u (Dtu.asg (lk rfl)) rfl ?_
  refine Ops.u (Dtu.asg (lk rfl)) rfl ?_
  refine Ops.nil ?_
  refine Then.next ?_
  refine Body.seq ?_
  refine Body.seq ?_
  refine Body.region ?_
  refine Ops.u (Dtu.mv (lk rfl)) rfl ?_
  refine Ops.u (Dtu.mv (lk rfl)) rfl ?_
  refine Ops.s (Stp.callOwn [0] rfl rfl Try.call80 (lks rfl) (fun E' le hat => ghas_ok E' _ _ _ _ _ _ _) ?_) rfl
  rintro _ _ ⟨rfl, rfl⟩
  refine Ops.u (Dtu.asg (lk rfl)) rfl ?_
  refine Ops.nil ?_
  refine Then.next ?_
  refine Body.seq ?_
  refine Body.region ?_
  refine Ops.u (Dtu.mv (lk rfl)) rfl ?_
  refine Ops.u (Dtu.neq (lk rfl) (lk rfl)) rfl ?_
  refine Ops.nil ?_
  refine Then.next ?_
  refine Body.condP (lk rfl) (fun hy => absurd hy (by first | omega | assumption | decide)) (fun _ => ?_)
  refine Body.skip ?_
  refine Then.next ?_
  refine Body.seq ?_
  refine Body.region ?_
  refine Ops.u (Dtu.mv (lk rfl)) rfl ?_
  refine Ops.u (Dtu.nilck (lk rfl)) rfl ?_
  refine Ops.u (Dtu.fld fa61_1 (lk rfl)) rfl ?_
  refine Ops.d (Det.ld Try.isAgg59 (lk rfl) (Rd.ow 0 rfl rfl)) rfl ?_
  refine Ops.u (Dtu.mv (lk rfl)) rfl ?_
  refine Ops.u (Dtu.ix (i := (row)) Try.underlying59 Try.sizeOf62 (Sl.osl 1 rfl) (lk rfl) (lk rfl) (by omega) (by omega)) rfl ?_
  refine Ops.d (Det.ld Try.isAgg62 (lk rfl) (Rd.sl (Sl.osl 1 rfl) (gm (by omega)))) rfl ?_
  refine Ops.s (Stp.call rfl Try.call84 (lks rfl) (fun E' le hat => cloneC_ok E' _ rs[row]!.cs.length (rs[row]!.cs.flatMap Cell.enc) (by first | exact Sl.mono (by assumption) le | exact Sl.hatI hat 0 rfl | exact Sl.hatI hat 1 rfl | exact Sl.hatI hat 2 rfl | exact Sl.hatI hat 3 rfl | exact Sl.hatI hat 4 rfl | exact Sl.hatI hat 5 rfl | exact Sl.hatI hat 6 rfl | exact Sl.hatI hat 7 rfl | exact Sl.hatI hat 8 rfl | exact Sl.hatI hat 9 rfl | exact Sl.hatI hat 10 rfl | exact Sl.hatI hat 11 rfl | exact Sl.hatI hat 12 rfl | exact Sl.hatI hat 13 rfl | exact Sl.hatI hat 14 rfl | exact Sl.hatI hat 15 rfl) (all_flat (fun _ => rfl) _) (by omega)) ?_) rfl
  rintro _ _ ⟨rfl, ⟨z1, z2, z3, rfl⟩⟩
  refine Ops.pure (Sl.litLen (Sl.osl (t := 39) 0 rfl)) fun hz => ?_
  subst hz
  refine Ops.u (Dtu.asg (lk rfl)) rfl ?_
  refine Ops.u (Dtu.asg (lk rfl)) rfl ?_
  refine Ops.nil ?_
  refine Then.next ?_
  refine Body.ret ?_
  refine ⟨.inr rfl, _, fun w s => ?_, z1, z3, rfl, rfl⟩
  have s2 := grid_putH row hrow _ rfl w (pk [3, 3, 1, 1, 0] rfl w s)
  rw [setC_same hrow] at s2
  exact s2
theorem growsn_ok (E : Env) (b : Nat) (cols : Int) (a : Option Addr) (m c : Nat) : Does Try.prog 32 #[.pointer (some ⟨b, 0, none⟩)] E [own b [.int .i64 cols, .slice a m c] 61] fun r H' => r = .int .i64 m ∧ H' = [own b [.int .i64 cols, .slice a m c] 61] := by
  refine Does.go (args := [.pointer (some ⟨b, 0, none⟩)]) _ _ Try.func32 rfl Try.ntmps32 rfl rfl ?_
  refine Body.seq ?_
  refine Body.region ?_
  refine Ops.u (Dtu.asg (lk rfl)) rfl ?_
  refine Ops.nil ?_
  refine Then.next ?_
  refine Body.seq ?_
  refine Body.seq ?_
  refine Body.region ?_
  refine Ops.u (Dtu.mv (lk rfl)) rfl ?_
  refine Ops.u (Dtu.eqNil Try.underlying23 (lk rfl) (lk rfl)) rfl ?_
  refine Ops.nil ?_
  refine Then.next ?_
  refine Body.condF (lk rfl) ?_
  refine Body.skip ?_
  refine Then.next ?_
  refine Body.seq ?_
  refine Body.region ?_
  refine Ops.u (Dtu.mv (lk rfl)) rfl ?_
  refine Ops.u (Dtu.nilck (lk rfl)) rfl ?_
  refine Ops.u (Dtu.fld fa61_1 (lk rfl)) rfl ?_
  refine Ops.d (Det.ld Try.isAgg59 (lk rfl) (Rd.ow 0 rfl rfl)) rfl ?_
  refine Ops.u (Dtu.len Try.underlying59 (lk rfl)) rfl ?_
  refine Ops.u (Dtu.asg (lk rfl)) rfl ?_
  refine Ops.nil ?_
  refine Then.next ?_
  refine Body.ret ?_
  exact ⟨.inr rfl, _, pk [0] rfl, rfl, rfl⟩
theorem gcolsn_ok (E : Env) (b : Nat) (cols : Int) (a : Option Addr) (m c : Nat) : Does Try.prog 33 #[.pointer (some ⟨b, 0, none⟩)] E [own b [.int .i64 cols, .slice a m c] 61] fun r H' => r = .int .i64 cols ∧ H' = [own b [.int .i64 cols, .slice a m c] 61] := by
  refine Does.go (args := [.pointer (some ⟨b, 0, none⟩)]) _ _ Try.func33 rfl Try.ntmps33 rfl rfl ?_
  refine Body.seq ?_
  refine Body.region ?_
  refine Ops.u (Dtu.asg (lk rfl)) rfl ?_
  refine Ops.nil ?_
  refine Then.next ?_
  refine Body.seq ?_
  refine Body.seq ?_
  refine Body.region ?_
  refine Ops.u (Dtu.mv (lk rfl)) rfl ?_
  refine Ops.u (Dtu.eqNil Try.underlying23 (lk rfl) (lk rfl)) rfl ?_
  refine Ops.nil ?_
  refine Then.next ?_
  refine Body.condF (lk rfl) ?_
  refine Body.skip ?_
  refine Then.next ?_
  refine Body.seq ?_
  refine Body.region ?_
  refine Ops.u (Dtu.mv (lk rfl)) rfl ?_
  refine Ops.u (Dtu.nilck (lk rfl)) rfl ?_
  refine Ops.u (Dtu.fld fa61_0 (lk rfl)) rfl ?_
  refine Ops.d (Det.ld Try.isAgg3 (lk rfl) (Rd.ow 0 rfl rfl)) rfl ?_
  refine Ops.u (Dtu.asg (lk rfl)) rfl ?_
  refine Ops.nil ?_
  refine Then.next ?_
  refine Body.ret ?_
  exact ⟨.inr rfl, _, pk [0] rfl, rfl, rfl⟩
theorem gfill_zero (E : Env) (b : Nat) (cols : Int) (a : Option Addr) (m c : Nat) (row x y : Int) (p f g q : Int) (h : hasE m cols row 0 ≠ 0) : Does Try.prog 30 #[.pointer (some ⟨b, 0, none⟩), .int .i64 row, .int .i64 x, .int .i64 y, .agg #[.int .i32 p, .int .u8 f, .int .u32 g, .int .u32 q]] E [own b [.int .i64 cols, .slice a m c] 61] fun r H' => r = .int .i64 (hasE m cols row 0) ∧ H' = [own b [.int .i64 cols, .slice a m c] 61] := by
  refine Does.go (args := [.pointer (some ⟨b, 0, none⟩), .int .i64 row, .int .i64 x, .int .i64 y, .agg #[.int .i32 p, .int .u8 f, .int .u32 g, .int .u32 q]]) _ _ Try.func30 rfl Try.ntmps30 rfl rfl ?_
  refine Body.seq ?_
  refine Body.region ?_
  refine Ops.s (Stp.box (lk rfl) rfl (fun b9 => ?_)) rfl
  refine Ops.u (Dtu.asg (lk rfl)) rfl ?_
  refine Ops.nil ?_
  refine Then.next ?_
  refine Body.seq ?_
  refine Body.seq ?_
  refine Body.region ?_
  refine Ops.u (Dtu.mv (lk rfl)) rfl ?_
  refine Ops.u (Dtu.mv (lk rfl)) rfl ?_
  refine Ops.s (Stp.callOwn [1] rfl rfl Try.call80 (lks rfl) (fun E' le hat => ghas_ok E' _ _ _ _ _ _ _) ?_) rfl
  rintro _ _ ⟨rfl, rfl⟩
  refine Ops.u (Dtu.asg (lk rfl)) rfl ?_
  refine Ops.nil ?_
  refine Then.next ?_
  refine Body.seq ?_
  refine Body.region ?_
  refine Ops.u (Dtu.mv (lk rfl)) rfl ?_
  refine Ops.u (Dtu.neq (lk rfl) (lk rfl)) rfl ?_
  refine Ops.nil ?_
  refine Then.next ?_
  refine Body.condP (lk rfl) (fun _ => ?_) (fun hn => absurd (by first | omega | assumption | decide) hn)
  refine Body.seq ?_
  refine Body.region ?_
  refine Ops.u (Dtu.mv (lk rfl)) rfl ?_
  refine Ops.u (Dtu.asg (lk rfl)) rfl ?_
  refine Ops.nil ?_
  refine Then.next ?_
  refine Body.ret ?_
  refine Then.ret ?_
  exact ⟨.inr rfl, _, pk [0] rfl, rfl, rfl⟩
theorem gup_no (E : Env) (b : Nat) (cols : Int) (a : Option Addr) (m c : Nat) (t u n : Int) (p f g q : Int) (h : rowsE m t u n ≠ 0) : Does Try.prog 23 #[.pointer (some ⟨b, 0, none⟩), .int .i64 t, .int .i64 u, .int .i64 n, .agg #[.int .i32 p, .int .u8 f, .int .u32 g, .int .u32 q]] E [own b [.int .i64 cols, .slice a m c] 61] fun r H' => r = .int .i64 (rowsE m t u n) ∧ H' = [own b [.int .i64 cols, .slice a m c] 61] := by
  refine Does.go (args := [.pointer (some ⟨b, 0, none⟩), .int .i64 t, .int .i64 u, .int .i64 n, .agg #[.int .i32 p, .int .u8 f, .int .u32 g, .int .u32 q]]) _ _ Try.func23 rfl Try.ntmps23 rfl rfl ?_
  refine Body.seq ?_
  refine Body.region ?_
  refine Ops.s (Stp.box (lk rfl) rfl (fun b9 => ?_)) rfl
  refine Ops.u (Dtu.asg (lk rfl)) rfl ?_
  refine Ops.nil ?_
  refine Then.next ?_
  refine Body.seq ?_
  refine Body.seq ?_
  refine Body.region ?_
  refine Ops.u (Dtu.mv (lk rfl)) rfl ?_
  refine Ops.u (Dtu.mv (lk rfl)) rfl ?_
  refine Ops.u (Dtu.mv (lk rfl)) rfl ?_
  refine Ops.u (Dtu.mv (lk rfl)) rfl ?_
  refine Ops.s (Stp.callOwn [1] rfl rfl Try.call82 (lks rfl) (fun E' le hat => grows_ok E' _ _ _ _ _ _ _ _) ?_) rfl
  rintro _ _ ⟨rfl, rfl⟩
  refine Ops.u (Dtu.asg (lk rfl)) rfl ?_
  refine Ops.nil ?_
  refine Then.next ?_
  refine Body.seq ?_
  refine Body.region ?_
  refine Ops.u (Dtu.mv (lk rfl)) rfl ?_
  refine Ops.u (Dtu.neq (lk rfl) (lk rfl)) rfl ?_
  refine Ops.nil ?_
  refine Then.next ?_
  refine Body.condP (lk rfl) (fun _ => ?_) (fun hn => absurd (by first | omega | assumption | decide) hn)
  refine Body.seq ?_
  refine Body.region ?_
  refine Ops.u (Dtu.mv (lk rfl)) rfl ?_
  refine Ops.u (Dtu.asg (lk rfl)) rfl ?_
  refine Ops.nil ?_
  refine Then.next ?_
  refine Body.ret ?_
  refine Then.ret ?_
  exact ⟨.inr rfl, _, pk [0] rfl, rfl, rfl⟩
theorem gdown_no (E : Env) (b : Nat) (cols : Int) (a : Option Addr) (m c : Nat) (t u n : Int) (p f g q : Int) (h : rowsE m t u n ≠ 0) : Does Try.prog 25 #[.pointer (some ⟨b, 0, none⟩), .int .i64 t, .int .i64 u, .int .i64 n, .agg #[.int .i32 p, .int .u8 f, .int .u32 g, .int .u32 q]] E [own b [.int .i64 cols, .slice a m c] 61] fun r H' => r = .int .i64 (rowsE m t u n) ∧ H' = [own b [.int .i64 cols, .slice a m c] 61] := by
  refine Does.go (args := [.pointer (some ⟨b, 0, none⟩), .int .i64 t, .int .i64 u, .int .i64 n, .agg #[.int .i32 p, .int .u8 f, .int .u32 g, .int .u32 q]]) _ _ Try.func25 rfl Try.ntmps25 rfl rfl ?_
  refine Body.seq ?_
  refine Body.region ?_
  refine Ops.s (Stp.box (lk rfl) rfl (fun b9 => ?_)) rfl
  refine Ops.u (Dtu.asg (lk rfl)) rfl ?_
  refine Ops.nil ?_
  refine Then.next ?_
  refine Body.seq ?_
  refine Body.seq ?_
  refine Body.region ?_
  refine Ops.u (Dtu.mv (lk rfl)) rfl ?_
  refine Ops.u (Dtu.mv (lk rfl)) rfl ?_
  refine Ops.u (Dtu.mv (lk rfl)) rfl ?_
  refine Ops.u (Dtu.mv (lk rfl)) rfl ?_
  refine Ops.s (Stp.callOwn [1] rfl rfl Try.call82 (lks rfl) (fun E' le hat => grows_ok E' _ _ _ _ _ _ _ _) ?_) rfl
  rintro _ _ ⟨rfl, rfl⟩
  refine Ops.u (Dtu.asg (lk rfl)) rfl ?_
  refine Ops.nil ?_
  refine Then.next ?_
  refine Body.seq ?_
  refine Body.region ?_
  refine Ops.u (Dtu.mv (lk rfl)) rfl ?_
  refine Ops.u (Dtu.neq (lk rfl) (lk rfl)) rfl ?_
  refine Ops.nil ?_
  refine Then.next ?_
  refine Body.condP (lk rfl) (fun _ => ?_) (fun hn => absurd (by first | omega | assumption | decide) hn)
  refine Body.seq ?_
  refine Body.region ?_
  refine Ops.u (Dtu.mv (lk rfl)) rfl ?_
  refine Ops.u (Dtu.asg (lk rfl)) rfl ?_
  refine Ops.nil ?_
  refine Then.next ?_
  refine Body.ret ?_
  refine Then.ret ?_
  exact ⟨.inr rfl, _, pk [0] rfl, rfl, rfl⟩
end Go.Proofs.Ytpmapedhigjalaa
end
section
/- A grid: rows that move, in plain words. -/
namespace Go.Proofs.Ytpmapedhigjalaa
set_option maxRecDepth 100000
set_option linter.unusedVariables false
set_option linter.unusedSimpArgs false
open Go.Sx

/-- the headers while new lines come in behind -/
def hdU (t L N : Nat) (rs z : List Row) : List Row := rs.take t ++ ((rs.drop (t + N)).take (L - N) ++ (z ++ rs.drop (t + (L - N) + z.length)))
theorem hdU_start {t L N : Nat} {rs : List Row} (hN : N ≤ L) (hL : t + L ≤ rs.length) :
    rs.take t ++ ((((rs.drop t).take L).drop N).take (L - N)).take ((L - N).min L) ++ rs.drop (t + (L - N).min L) = hdU t L N rs [] := by
  have e : (L - N).min L = L - N := Nat.min_eq_left (by omega)
  rw [e]
  unfold hdU
  simp only [List.length_nil, Nat.add_zero, List.nil_append, List.append_assoc, List.drop_take, List.drop_drop, List.take_take, Nat.min_self]
theorem hdU_len {t L N : Nat} {rs z : List Row} (hN : N ≤ L) (hL : t + L ≤ rs.length) (hz : z.length ≤ N) : (hdU t L N rs z).length = rs.length := by
  unfold hdU
  simp only [List.length_append, List.length_take, List.length_drop]
  omega
theorem hdU_set {t L N : Nat} {rs z : List Row} (r : Row) (hN : N ≤ L) (hL : t + L ≤ rs.length) (hz : z.length < N) : (hdU t L N rs z).set (t + (L - N) + z.length) r = hdU t L N rs (z ++ [r]) := by
  unfold hdU
  have l1 : (rs.take t).length = t := by simp; omega
  have l2 : ((rs.drop (t + N)).take (L - N)).length = L - N := by simp; omega
  rw [List.set_append_right _ _ (by omega), l1, List.set_append_right _ _ (by omega), l2, List.set_append_right _ _ (by omega)]
  rw [show t + (L - N) + z.length - t - (L - N) - z.length = 0 by omega]
  have hd : rs.drop (t + (L - N) + z.length) = rs[t + (L - N) + z.length]'(by omega) :: rs.drop (t + (L - N) + z.length + 1) := List.drop_eq_getElem_cons (by omega)
  rw [hd, List.set_cons_zero, List.length_append, List.append_assoc]
  rfl
def rsU (t L N : Nat) (rs z : List Row) : List Row := rs.take t ++ ((rs.drop (t + N)).take (L - N) ++ (z ++ rs.drop (t + L)))
theorem hdU_end {t L N : Nat} {rs z : List Row} (hN : N ≤ L) (hz : z.length = N) : hdU t L N rs z = rsU t L N rs z := by
  unfold hdU rsU
  rw [show t + (L - N) + z.length = t + L by omega]
theorem split4 {α : Type} (t L N : Nat) (rs : List α) (hN : N ≤ L) : rs = rs.take t ++ ((rs.drop t).take N ++ ((rs.drop (t + N)).take (L - N) ++ rs.drop (t + L))) := by
  have e1 : (rs.drop (t + N)).take (L - N) ++ rs.drop (t + L) = rs.drop (t + N) := by
    have e2 : rs.drop (t + L) = (rs.drop (t + N)).drop (L - N) := by rw [List.drop_drop]; congr 1; omega
    rw [e2, List.take_append_drop]
  have e3 : rs.drop (t + N) = (rs.drop t).drop N := by rw [List.drop_drop]
  rw [e1, e3, List.take_append_drop, List.take_append_drop]
theorem perm6 {α : Type} (A X M D Z H : List α) : ((A ++ (X ++ (M ++ D))) ++ (Z ++ H)).Perm ((A ++ (M ++ (Z ++ D))) ++ H ++ X) := by
  classical
  rw [List.perm_iff_count]
  intro x
  simp only [List.count_append]
  omega
theorem many_move {E : Env} {t L N : Nat} {rs z : List Row} {H : List HProp} {w : World} (hN : N ≤ L) (s : St E (many (rs.map Row.own) :: many (z.map Row.own) :: H) w) : St E (many ((rsU t L N rs z).map Row.own) :: H) w := by
  have s1 := many_iff.1 s
  have s2 : St E (rs.map Row.own ++ (z.map Row.own ++ H)) w := by
    have := s1.perm (List.perm_middle (a := many (z.map Row.own)))
    have := many_iff.1 this
    refine this.perm ?_
    classical
    rw [List.perm_iff_count]
    intro x
    simp only [List.count_append]
    omega
  have e := congrArg (List.map Row.own) (split4 t L N rs hN)
  simp only [List.map_append] at e
  rw [e] at s2
  have s3 := (s2.perm (perm6 _ _ _ _ _ _)).drop_tail
  refine many_iff.2 ?_
  simp only [rsU, List.map_append]
  exact s3
theorem rsU_len {t L N : Nat} {rs z : List Row} (hN : N ≤ L) (hL : t + L ≤ rs.length) (hz : z.length = N) : (rsU t L N rs z).length = rs.length := by
  rw [← hdU_end hN hz, hdU_len hN hL (by omega)]
end Go.Proofs.Ytpmapedhigjalaa
end
section
/- A grid: Up. -/
namespace Go.Proofs.Ytpmapedhigjalaa
set_option maxRecDepth 100000
set_option linter.unusedVariables false
set_option linter.unusedSimpArgs false
open Go.Sx

theorem rows_yes {m : Nat} {t u n : Int} (h : rowsE m t u n = 0) : 0 < m ∧ 0 ≤ t ∧ t ≤ u ∧ u < m ∧ 0 ≤ n := by
  unfold rowsE at h; (repeat' split at h) <;> omega
theorem gup_ok (E : Env) (b : Nat) (cols : Int) (a : Option Addr) (m c : Nat) (rs : List Row) (hr : Fit cols rs) (t u n : Nat) (p f g q : Int) (h : rowsE rs.length t u n = 0) : Does Try.prog 23 #[.pointer (some ⟨b, 0, none⟩), .int .i64 t, .int .i64 u, .int .i64 n, .agg #[.int .i32 p, .int .u8 f, .int .u32 g, .int .u32 q]] E (gridA b cols a m c rs) fun r H' => ∃ z, z.length = min n (u + 1 - t) ∧ (∀ x ∈ z, x.cs = List.replicate cols.toNat ⟨p, f, g, q⟩) ∧ r = .int .i64 0 ∧ H' = gridA b cols a m c (rsU t (u + 1 - t) (min n (u + 1 - t)) rs z) := by
  have hh := rows_yes h
  have hc := hr.c
  have hn := hr.n
  refine Does.pure (Sl.litLen (Sl.osl (t := 62) 1 rfl)) fun hm => ?_
  subst hm
  refine Does.go (args := [.pointer (some ⟨b, 0, none⟩), .int .i64 t, .int .i64 u, .int .i64 n, .agg #[.int .i32 p, .int .u8 f, .int .u32 g, .int .u32 q]]) _ _ Try.func23 rfl Try.ntmps23 rfl rfl ?_
  refine Body.seq ?_
  refine Body.region ?_
  refine Ops.s (Stp.box (lk rfl) rfl (fun b9 => ?_)) rfl
  refine Ops.u (Dtu.asg (lk rfl)) rfl ?_
  refine Ops.nil ?_
  refine Then.next ?_
  refine Body.seq ?_
  refine Body.seq ?_
  refine Body.region ?_
  refine Ops.u (Dtu.mv (lk rfl)) rfl ?_
  refine Ops.u (Dtu.mv (lk rfl)) rfl ?_
  refine Ops.u (Dtu.mv (lk rfl)) rfl ?_
  refine Ops.u (Dtu.mv (lk rfl)) rfl ?_
  refine Ops.s (Stp.callOwn [1] rfl rfl Try.call82 (lks rfl) (fun E' le hat => grows_ok E' _ _ _ _ _ _ _ _) ?_) rfl
  rintro _ _ ⟨rfl, rfl⟩
  refine Ops.u (Dtu.asg (lk rfl)) rfl ?_
  refine Ops.nil ?_
  refine Then.next ?_
  refine Body.seq ?_
  refine Body.region ?_
  refine Ops.u (Dtu.mv (lk rfl)) rfl ?_
  refine Ops.u (Dtu.neq (lk rfl) (lk rfl)) rfl ?_
  refine Ops.nil ?_
  refine Then.next ?_
  refine Body.condP (lk rfl) (fun hy => absurd hy (by first | omega | assumption | decide)) (fun _ => ?_)
  refine Body.skip ?_
  refine Then.next ?_
  refine Body.seq ?_
  refine Body.region ?_
  refine Ops.u (Dtu.mv (lk rfl)) rfl ?_
  refine Ops.u (Dtu.nilck (lk rfl)) rfl ?_
  refine Ops.u (Dtu.fld fa61_1 (lk rfl)) rfl ?_
  refine Ops.d (Det.ld Try.isAgg59 (lk rfl) (Rd.ow 0 rfl rfl)) rfl ?_
  refine Ops.u (Dtu.mv (lk rfl)) rfl ?_
  refine Ops.u (Dtu.mv (lk rfl)) rfl ?_
  refine Ops.u (Dtu.add (lk rfl) (lk rfl) (w64 (by omega) (by omega))) rfl ?_
  refine Ops.u (Dtu.slLH (t) (u + 1) Try.underlying59 Try.sizeOf62 (Sl.osl 2 rfl) (lk rfl) (lk rfl) (lk rfl) (by omega) (by omega) (by omega) (by omega)) rfl ?_
  refine Ops.u (Dtu.asg (lk rfl)) rfl ?_
  refine Ops.nil ?_
  refine Then.next ?_
  refine Body.seq ?_
  refine Body.region ?_
  refine Ops.u (Dtu.mv (lk rfl)) rfl ?_
  refine Ops.u (Dtu.mv (lk rfl)) rfl ?_
  refine Ops.u (Dtu.lenS Try.underlying59 (Sl.subM (Sl.osl 2 rfl) _ _ (by omega) (by omega)) (lk rfl)) rfl ?_
  refine Ops.u (Dtu.min (lk rfl) (lk rfl)) rfl ?_
  refine Ops.u (Dtu.asg (lk rfl)) rfl ?_
  refine Ops.nil ?_
  refine Then.next ?_
  refine Body.seq ?_
  refine Body.region ?_
  refine Ops.u (Dtu.mv (lk rfl)) rfl ?_
  refine Ops.u (Dtu.mv (lk rfl)) rfl ?_
  refine Ops.u (Dtu.mv (lk rfl)) rfl ?_
  have e1 : min (n : Int) ((u + 1 - t : Nat) : Int) = ((min n (u + 1 - t) : Nat) : Int) := by omega
  rw [e1]
  have hN : min n (u + 1 - t) ≤ u + 1 - t := Nat.min_le_right _ _
  generalize hNe : min n (u + 1 - t) = N at *
  have hs1 := Sl.subM (gg := Row.hd) (E := E) (H := [own b [.int .i64 cols, .slice a rs.length c] 61, own b9 [.int .i32 p, .int .u8 f, .int .u32 g, .int .u32 q] 39, osl 62 1 (.slice a rs.length c) rs.length (rs.map Row.hd), many (rs.map Row.own)]) (Sl.osl 2 rfl) t (u + 1) (by omega) (by omega)
  have hs2 := Sl.subM hs1 N (u + 1 - t) (by omega) (by omega)
  refine Ops.u (Dtu.slL (N) Try.underlying59 Try.sizeOf62 hs1 (lk rfl) (lk rfl) (by omega) (by omega)) rfl ?_
  refine Ops.s (Stp.copyM 2 Try.underlying59 Try.sizeOf62 rfl (lk rfl) (LiesIn.sub' (Sl.osl 2 rfl) (by omega) (by omega)) (by omega) (lk rfl) hs2 (fun _ => rfl) rfl ?_) rfl
  refine Ops.nil ?_
  refine Then.next ?_
  refine Body.seq ?_
  refine Body.seq ?_
  refine Body.region ?_
  refine Ops.u (Dtu.mv (lk rfl)) rfl ?_
  refine Ops.u (Dtu.lenS Try.underlying59 (Sl.subM (Sl.osl 2 rfl) _ _ (by omega) (by omega)) (lk rfl)) rfl ?_
  refine Ops.u (Dtu.mv (lk rfl)) rfl ?_
  refine Ops.u (Dtu.sub (lk rfl) (lk rfl) (w64 (by omega) (by omega))) rfl ?_
  refine Ops.u (Dtu.asg (lk rfl)) rfl ?_
  refine Ops.nil ?_
  refine Then.next ?_
  refine Body.block ?_
  refine Body.conseq (H' := [own b [.int .i64 cols, .slice a rs.length c] 61, own b9 [.int .i32 p, .int .u8 f, .int .u32 g, .int .u32 q] 39, osl 62 1 (.slice a rs.length c) rs.length ((hdU t (u + 1 - t) N rs []).map Row.hd), many (rs.map Row.own), many (([] : List Row).map Row.own)]) (fun w s => ?_) ?_
  · rw [← hdU_start hN (by omega)]
    exact pk [1, 1, 1, 1, 0] rfl w (many_nil s)
  refine Body.loopF (γ := List Row) rfl (fun z => [(13, .int .i64 (((u + 1 - t : Nat) : Int) - N + z.length))]) (fun z => [own b [.int .i64 cols, .slice a rs.length c] 61, own b9 [.int .i32 p, .int .u8 f, .int .u32 g, .int .u32 q] 39, osl 62 1 (.slice a rs.length c) rs.length ((hdU t (u + 1 - t) N rs z).map Row.hd), many (rs.map Row.own), many (z.map Row.own)]) (fun z => z.length ≤ N ∧ ∀ x ∈ z, x.cs = List.replicate cols.toNat ⟨p, f, g, q⟩) (fun z => N - z.length) [] ⟨by simp, by simp⟩ ⟨int_eq (by simp), trivial⟩ rfl ?_
  rintro z w0 ⟨hz, hzc⟩
  clear hs1 hs2
  have hlen := hdU_len (t := t) (L := u + 1 - t) (N := N) (rs := rs) (z := z) hN (by omega) hz
  have hs3 := Sl.subM (gg := Row.hd) (E := E) (H := [own b [.int .i64 cols, .slice a rs.length c] 61, own b9 [.int .i32 p, .int .u8 f, .int .u32 g, .int .u32 q] 39, osl 62 1 (.slice a rs.length c) rs.length ((hdU t (u + 1 - t) N rs z).map Row.hd), many (rs.map Row.own), many (z.map Row.own)]) (Sl.osl 2 rfl) t (u + 1) (by omega) (by omega)
  refine Body.seq ?_
  refine Body.seq ?_
  refine Body.region ?_
  refine Ops.u (Dtu.mv (lk rfl)) rfl ?_
  refine Ops.u (Dtu.mv (lk rfl)) rfl ?_
  refine Ops.u (Dtu.lenS Try.underlying59 hs3 (lk rfl)) rfl ?_
  refine Ops.u (Dtu.lss (lk rfl) (lk rfl)) rfl ?_
  refine Ops.nil ?_
  refine Then.next ?_
  refine Body.condP (lk rfl) (fun c46 => ?_) (fun c46 => ?_)
  · refine Body.skip ?_
    refine Then.next ?_
    refine Body.seq ?_
    refine Body.block ?_
    refine Body.draw mixed ?_
    refine AB.u 0 rfl (by decide +kernel) (Dtu.mv (lk rfl)) rfl ?_
    refine AB.u 1 rfl (by decide +kernel) (Dtu.mv (lk rfl)) rfl ?_
    refine AB.u 2 rfl (by decide +kernel) (Dtu.mv (lk rfl)) rfl ?_
    refine AB.u 3 rfl (by decide +kernel) (Dtu.nilck (lk rfl)) rfl ?_
    refine AB.u 4 rfl (by decide +kernel) (Dtu.fld fa61_0 (lk rfl)) rfl ?_
    refine AB.d 5 rfl (by decide +kernel) rfl (Det.ld Try.isAgg3 (lk rfl) (Rd.ow 0 rfl rfl)) rfl ?_
    refine AB.d 6 rfl (by decide +kernel) rfl (Det.lda Try.isAgg39 Try.sizeOf39 (lk rfl) (Rds.ow (m := 4) 1 rfl rfl) rfl) rfl ?_
    refine AB.s 7 rfl (by decide +kernel) (by decide +kernel) (Stp.call rfl Try.call74 (lks rfl) (fun E' le hat => line_row E' _ _ _ _ _ (by omega) (by omega)) ?_) rfl
    rintro _ _ ⟨z56, hz56, rfl, rfl⟩
    refine AB.u 8 rfl (by decide +kernel) (Dtu.ix (i := (u + 1 - t - N + z.length)) Try.underlying59 Try.sizeOf62 (Sl.subM (Sl.osl 3 rfl) _ _ (by omega) (by omega)) (lk rfl) (lk rfl) (by omega) (by omega)) rfl ?_
    refine AB.pure (LiesIn.sub' (E := E) (v := .slice a rs.length c) (sz := 1) (m := rs.length) (vs := (hdU t (u + 1 - t) N rs z).map Row.hd) (lo := t) (hi := u + 1) (Sl.osl (t := 62) 3 rfl) (by omega) (by omega)) fun hlie => ?_
    obtain ⟨cc, hcc⟩ : ∃ cc, subSl (.slice a rs.length c) 1 t (u + 1) (capOf (.slice a rs.length c)) = .slice (some ⟨blkOf (.slice a rs.length c), offOf (.slice a rs.length c) + t * 1, none⟩) (u + 1 - t) cc := by
      rcases hlie with ⟨h0, _⟩ | h0
      · omega
      · exact h0
    have hp : Value.pointer (some ⟨blkOf (subSl (.slice a rs.length c) 1 t (u + 1) (capOf (.slice a rs.length c))), offOf (subSl (.slice a rs.length c) 1 t (u + 1) (capOf (.slice a rs.length c))) + (u + 1 - t - N + z.length) * 1, none⟩) = .pointer (some ⟨blkOf (.slice a rs.length c), offOf (.slice a rs.length c) + (t + (u + 1 - t - N) + z.length) * 1, none⟩) := by
      rw [hcc]
      simp only [blkOf, offOf, Nat.mul_one, Nat.add_assoc]
    have hset := hdU_set z56 hN (L := u + 1 - t) (t := t) (rs := rs) (z := z) (by omega) (by omega)
    refine AB.e 9 rfl (by decide +kernel) (by decide +kernel) (Stp.storeM 3 (e := z56) (gg := Row.hd) (k := t + (u + 1 - t - N) + z.length) Try.sizeOf62 rfl ((lk rfl).trans hp) (lk rfl) (fun _ => rfl) rfl (by omega) rfl ?_)
    rw [hset]
    refine AB.done (by decide +kernel) ?_
    refine Blk.norm ?_
    refine Then.next ?_
    refine Body.region ?_
    refine Ops.u (Dtu.mv (lk rfl)) rfl ?_
    refine Ops.u (Dtu.add (lk rfl) (lk rfl) (w64 (by omega) (by omega))) rfl ?_
    refine Ops.u (Dtu.asg (lk rfl)) rfl ?_
    refine Ops.nil ?_
    refine Round.goW (z ++ [z56]) rfl rfl rfl ⟨int_eq (by simp; omega), trivial⟩ (fun w s => ?_) ⟨by simp; omega, fun x hx => ?_⟩ (by simp; omega)
    · exact pk [1, 1, 1, 1, 0] rfl w (many_map_snoc (pk [0, 4, 0, 0, 0, 0] rfl w s))
    · rcases List.mem_append.1 hx with hx | hx
      · exact hzc x hx
      · rw [List.mem_singleton.1 hx]; exact hz56
  · refine Body.exit ?_
    refine Then.exit ?_
    refine Round.exit ?_
    refine Blk.here ?_
    refine Then.next ?_
    refine Body.seq ?_
    refine Body.region ?_
    refine Ops.u (Dtu.asg (lk rfl)) rfl ?_
    refine Ops.nil ?_
    refine Then.next ?_
    refine Body.ret ?_
    have hzl : z.length = N := by omega
    refine ⟨.inr rfl, _, fun w s => ?_, z, hzl, hzc, rfl, rfl⟩
    have s2 := many_move (t := t) hN (pk [3, 3, 0, 1] rfl w s)
    unfold gridA
    rw [rsU_len hN (by omega) hzl, ← hdU_end hN hzl]
    rw [← hdU_end hN hzl] at s2
    exact pk [1, 1, 0] rfl w s2
end Go.Proofs.Ytpmapedhigjalaa
end
section
/- A grid: what must come of fixed calls. -/
namespace Go.Proofs.Ytpmapedhigjalaa
set_option maxRecDepth 100000
set_option linter.unusedVariables false
set_option linter.unusedSimpArgs false
open Go.Sx

theorem Fit.new {rows cols : Int} {rs : List Row} (h : fitsG rows cols = true) (hr : rs.map Row.cs = List.replicate rows.toNat (List.replicate cols.toNat Cell.blank)) : Fit cols rs := by
  have hb : 1 ≤ rows ∧ rows ≤ 12 ∧ 1 ≤ cols ∧ cols ≤ 40 := by simpa [fitsG] using h
  have hl : rs.length = rows.toNat := by have := congrArg List.length hr; simpa using this
  refine ⟨by omega, by omega, fun r hm => ?_⟩
  have : r.cs ∈ rs.map Row.cs := List.mem_map.2 ⟨r, hm, rfl⟩
  rw [hr] at this
  rw [(List.mem_replicate.1 this).2]
  simp; omega
theorem Fit.rsU {cols : Int} {t L N : Nat} {rs z : List Row} {c : Cell} (h : Fit cols rs) (hN : N ≤ L) (hL : t + L ≤ rs.length) (hz : z.length = N) (hc : ∀ x ∈ z, x.cs = List.replicate cols.toNat c) : Fit cols (rsU t L N rs z) := by
  have hb := h.c
  refine ⟨by rw [rsU_len hN hL hz]; exact h.n, h.c, fun r hm => ?_⟩
  unfold Go.Proofs.Ytpmapedhigjalaa.rsU at hm
  simp only [List.mem_append] at hm
  rcases hm with hm | hm | hm | hm
  · exact h.r _ (List.mem_of_mem_take hm)
  · exact h.r _ (List.mem_of_mem_drop (List.mem_of_mem_take hm))
  · rw [hc r hm]; simp; omega
  · exact h.r _ (List.mem_of_mem_drop hm)
theorem alive17_ok (E : Env) : Does Try.prog 14 #[] E [] fun r H' => r = .bool true ∧ H' = [] := by
  have hf : fitsG 2 3 = true := rfl
  have hf2 : fitsG 0 3 = false := rfl
  refine Does.go (args := []) _ _ Try.func14 rfl Try.ntmps14 rfl rfl ?_
  refine Body.seq ?_
  refine Body.region ?_
  refine Ops.u (Dtu.asg (lk rfl)) rfl ?_
  refine Ops.nil ?_
  refine Then.next ?_
  refine Body.seq ?_
  refine Body.region ?_
  refine Ops.s (Stp.call rfl Try.call12 (lks rfl) (fun E' le hat => gnew_ok E' _ _ (by assumption)) ?_) rfl
  rintro _ _ ⟨nb12, na12, nc12, nr12, hnr12, rfl, rfl⟩
  refine Ops.u (Dtu.mv (lk rfl)) rfl ?_
  refine Ops.u (Dtu.ext (lk rfl) rfl) rfl ?_
  refine Ops.u (Dtu.ext (lk rfl) rfl) rfl ?_
  refine Ops.u (Dtu.asg (lk rfl)) rfl ?_
  refine Ops.u (Dtu.asg (lk rfl)) rfl ?_
  refine Ops.nil ?_
  refine Then.next ?_
  refine Body.seq ?_
  refine Body.seq ?_
  refine Body.region ?_
  refine Ops.u (Dtu.mv (lk rfl)) rfl ?_
  refine Ops.u (Dtu.neq (lk rfl) (lk rfl)) rfl ?_
  refine Ops.u (Dtu.mv (lk rfl)) rfl ?_
  refine Ops.decP 17 rfl (fun hy => absurd hy (by first | omega | assumption | decide)) (fun _ => ?_)
  refine Ops.gu rfl rfl rfl (Dtu.mv (lk rfl)) rfl ?_
  refine Ops.gu rfl rfl rfl (Dtu.eqNil Try.underlying23 (lk rfl) (lk rfl)) rfl ?_
  refine Ops.u (Dtu.pickF (lk rfl) (lk rfl)) rfl ?_
  refine Ops.nil ?_
  refine Then.next ?_
  refine Body.condF (lk rfl) ?_
  refine Body.skip ?_
  refine Then.next ?_
  refine Body.seq ?_
  refine Body.region ?_
  refine Ops.u (Dtu.mv (lk rfl)) rfl ?_
  refine Ops.u (Dtu.build ty39 pl39 (lkp rfl) rfl rfl) rfl ?_
  have f0 := Fit.new hf hnr12
  have hl0 : nr12.length = 2 := by have := congrArg List.length hnr12; simpa using this
  refine Ops.s (Stp.callOwn [0, 0, 0] rfl rfl Try.call29 (lks rfl) (fun E' le hat => gput_ok E' _ 3 _ _ _ _ f0 1 2 65 0 0 0 (by unfold hasE; rw [hl0]; rfl)) ?_) rfl
  rintro _ _ ⟨rfl, rfl⟩
  refine Ops.u (Dtu.asg (lk rfl)) rfl ?_
  refine Ops.nil ?_
  refine Then.next ?_
  refine Body.seq ?_
  refine Body.region ?_
  refine Ops.u (Dtu.mv (lk rfl)) rfl ?_
  refine Ops.s (Stp.call rfl Try.call24 (lks rfl) (fun E' le hat => blank_ok E') ?_) rfl
  rintro _ _ ⟨rfl, rfl⟩
  have f1 : Fit 3 (setC nr12 1 (nr12[1]!.cs.set 2 ⟨65, 0, 0, 0⟩)) := f0.setC (by rw [List.length_set]; exact f0.at (by omega))
  have hl1 : (setC nr12 1 (nr12[1]!.cs.set 2 ⟨65, 0, 0, 0⟩)).length = 2 := by rw [setC_len]; exact hl0
  have h12 : nr12[1]!.cs = [Cell.blank, Cell.blank, Cell.blank] := by
    match nr12, hnr12, hl0 with
    | [r0, r1], h, _ =>
      simp only [List.map_cons, List.map_nil] at h
      injection h with _ h
      injection h with h _
  have hx : (setC nr12 1 (nr12[1]!.cs.set 2 ⟨65, 0, 0, 0⟩))[1]!.cs = [Cell.blank, Cell.blank, ⟨65, 0, 0, 0⟩] := by
    rw [h12]
    match nr12, hl0 with
    | [r0, r1], _ => rfl
  generalize setC nr12 1 (nr12[1]!.cs.set 2 ⟨65, 0, 0, 0⟩) = rs1 at *
  refine Ops.s (Stp.callOwn [0, 0, 0] rfl rfl Try.call23 (lks rfl) (fun E' le hat => gup_ok E' _ 3 _ _ _ _ f1 0 1 1 32 0 0 0 (by unfold rowsE; rw [hl1]; rfl)) ?_) rfl
  rintro _ _ ⟨z, hz, hzc, rfl, rfl⟩
  refine Ops.u (Dtu.asg (lk rfl)) rfl ?_
  refine Ops.nil ?_
  refine Then.next ?_
  refine Body.seq ?_
  refine Body.region ?_
  refine Ops.u (Dtu.mv (lk rfl)) rfl ?_
  have f2 : Fit 3 (rsU 0 2 1 rs1 z) := f1.rsU (by omega) (by omega) hz hzc
  have hl2 : (rsU 0 2 1 rs1 z).length = 2 := by rw [rsU_len (t := 0) (L := 2) (N := 1) (by omega) (by omega) hz]; exact hl1
  have hy : (rsU 0 2 1 rs1 z)[0]!.cs[2]! = ⟨65, 0, 0, 0⟩ ∧ (rsU 0 2 1 rs1 z)[1]!.cs[2]! = ⟨32, 0, 0, 0⟩ := by
    match rs1, hl1, z, hz with
    | [r0, r1], _, [z0], _ =>
      have e1 : r1.cs = [Cell.blank, Cell.blank, ⟨65, 0, 0, 0⟩] := hx
      have e2 := hzc z0 (by simp)
      refine ⟨?_, ?_⟩
      · show r1.cs[2]! = _
        rw [e1]; rfl
      · show z0.cs[2]! = _
        rw [e2]; rfl
  have hp1 : (rsU 0 2 1 rs1 z)[0]!.cs[2]!.pt = 65 := by rw [hy.1]
  have hp2 : (rsU 0 2 1 rs1 z)[1]!.cs[2]!.pt = 32 := by rw [hy.2]
  refine Ops.s (Stp.callOwn [0, 0, 0] rfl rfl Try.call16 (lks rfl) (fun E' le hat => gat_ok E' _ 3 _ _ _ _ f2 0 2 (by unfold hasE; rw [hl2]; rfl)) ?_) rfl
  rintro _ _ ⟨rfl, rfl⟩
  refine Ops.u (Dtu.mv (lk rfl)) rfl ?_
  refine Ops.u (Dtu.ext (lk rfl) rfl) rfl ?_
  refine Ops.u (Dtu.ext (lk rfl) rfl) rfl ?_
  refine Ops.s (Stp.alloc ty39 (fun b5 => ?_)) rfl
  refine Ops.e (Stp.store 0 Try.sizeOf39 (lk rfl) (lk rfl) rfl rfl rfl rfl rfl rfl rfl ?_)
  refine Ops.u (Dtu.asg (lk rfl)) rfl ?_
  refine Ops.nil ?_
  refine Then.next ?_
  refine Body.seq ?_
  refine Body.region ?_
  refine Ops.u (Dtu.mv (lk rfl)) rfl ?_
  refine Ops.s (Stp.callOwn [1, 1, 1] rfl rfl Try.call16 (lks rfl) (fun E' le hat => gat_ok E' _ 3 _ _ _ _ f2 1 2 (by unfold hasE; rw [hl2]; rfl)) ?_) rfl
  rintro _ _ ⟨rfl, rfl⟩
  refine Ops.u (Dtu.mv (lk rfl)) rfl ?_
  refine Ops.u (Dtu.ext (lk rfl) rfl) rfl ?_
  refine Ops.u (Dtu.ext (lk rfl) rfl) rfl ?_
  refine Ops.s (Stp.alloc ty39 (fun b7 => ?_)) rfl
  refine Ops.e (Stp.store 0 Try.sizeOf39 (lk rfl) (lk rfl) rfl rfl rfl rfl rfl rfl rfl ?_)
  refine Ops.u (Dtu.asg (lk rfl)) rfl ?_
  refine Ops.nil ?_
  refine Then.next ?_
  refine Body.seq ?_
  refine Body.region ?_
  refine Ops.s (Stp.call rfl Try.call12 (lks rfl) (fun E' le hat => gnew_no E' _ _ (by assumption)) ?_) rfl
  rintro _ _ ⟨rfl, rfl⟩
  refine Ops.u (Dtu.mv (lk rfl)) rfl ?_
  refine Ops.u (Dtu.ext (lk rfl) rfl) rfl ?_
  refine Ops.u (Dtu.ext (lk rfl) rfl) rfl ?_
  refine Ops.u (Dtu.asg (lk rfl)) rfl ?_
  refine Ops.u (Dtu.asg (lk rfl)) rfl ?_
  refine Ops.nil ?_
  refine Then.next ?_
  refine Body.seq ?_
  refine Body.region ?_
  refine Ops.u (Dtu.mv (lk rfl)) rfl ?_
  refine Ops.u (Dtu.eql (lk rfl) (lk rfl)) rfl ?_
  refine Ops.u (Dtu.mv (lk rfl)) rfl ?_
  refine Ops.decP 43 rfl (fun _ => ?_) (fun hn => absurd (by first | omega | assumption | decide) hn)
  refine Ops.gu rfl rfl rfl (Dtu.mv (lk rfl)) rfl ?_
  refine Ops.gu rfl rfl rfl (Dtu.eql (lk rfl) (lk rfl)) rfl ?_
  refine Ops.u (Dtu.pickT (lk rfl) (lk rfl)) rfl ?_
  refine Ops.u (Dtu.mv (lk rfl)) rfl ?_
  refine Ops.decP 47 rfl (fun _ => ?_) (fun hn => absurd (by first | omega | assumption | decide) hn)
  refine Ops.gu rfl rfl rfl (Dtu.fld fa39_0 (lk rfl)) rfl ?_
  refine Ops.gd rfl rfl rfl (Det.ld Try.isAgg21 (lk rfl) (Rd.ow 4 rfl rfl)) rfl ?_
  refine Ops.gu rfl rfl rfl (Dtu.eql (lk rfl) (lk rfl)) rfl ?_
  refine Ops.u (Dtu.pickT (lk rfl) (lk rfl)) rfl ?_
  refine Ops.u (Dtu.mv (lk rfl)) rfl ?_
  refine Ops.decP 52 rfl (fun _ => ?_) (fun hn => absurd (by first | omega | assumption | decide) hn)
  refine Ops.gu rfl rfl rfl (Dtu.mv (lk rfl)) rfl ?_
  refine Ops.gu rfl rfl rfl (Dtu.eql (lk rfl) (lk rfl)) rfl ?_
  refine Ops.u (Dtu.pickT (lk rfl) (lk rfl)) rfl ?_
  refine Ops.u (Dtu.mv (lk rfl)) rfl ?_
  refine Ops.decP 56 rfl (fun _ => ?_) (fun hn => absurd (by first | omega | assumption | decide) hn)
  refine Ops.gu rfl rfl rfl (Dtu.fld fa39_0 (lk rfl)) rfl ?_
  refine Ops.gd rfl rfl rfl (Det.ld Try.isAgg21 (lk rfl) (Rd.ow 0 rfl rfl)) rfl ?_
  refine Ops.gu rfl rfl rfl (Dtu.eql (lk rfl) (lk rfl)) rfl ?_
  refine Ops.u (Dtu.pickT (lk rfl) (lk rfl)) rfl ?_
  refine Ops.u (Dtu.mv (lk rfl)) rfl ?_
  refine Ops.decP 61 rfl (fun _ => ?_) (fun hn => absurd (by first | omega | assumption | decide) hn)
  refine Ops.gu rfl rfl rfl (Dtu.mv (lk rfl)) rfl ?_
  refine Ops.gu rfl rfl rfl (Dtu.eql (lk rfl) (lk rfl)) rfl ?_
  refine Ops.u (Dtu.pickT (lk rfl) (lk rfl)) rfl ?_
  refine Ops.u (Dtu.mv (lk rfl)) rfl ?_
  refine Ops.decP 65 rfl (fun _ => ?_) (fun hn => absurd (by first | omega | assumption | decide) hn)
  refine Ops.gu rfl rfl rfl (Dtu.mv (lk rfl)) rfl ?_
  refine Ops.gu rfl rfl rfl (Dtu.eql (lk rfl) (lk rfl)) rfl ?_
  refine Ops.u (Dtu.pickT (lk rfl) (lk rfl)) rfl ?_
  refine Ops.u (Dtu.asg (lk rfl)) rfl ?_
  refine Ops.nil ?_
  refine Then.next ?_
  refine Body.ret ?_
  exact ⟨.inr rfl, _, pk [] rfl, rfl, rfl⟩
end Go.Proofs.Ytpmapedhigjalaa
end
section
/- A grid: cells, Fill. -/
namespace Go.Proofs.Ytpmapedhigjalaa
set_option maxRecDepth 100000
set_option linter.unusedVariables false
set_option linter.unusedSimpArgs false
open Go.Sx

def cellsE (m : Nat) (cols row col n : Int) : Int := if hasE m cols row col = 0 then (if n < 0 then 1 else 0) else hasE m cols row col
theorem gcells_ok (E : Env) (b : Nat) (cols : Int) (a : Option Addr) (m c : Nat) (row col n : Int) : Does Try.prog 83 #[.pointer (some ⟨b, 0, none⟩), .int .i64 row, .int .i64 col, .int .i64 n] E [own b [.int .i64 cols, .slice a m c] 61] fun r H' => r = .int .i64 (cellsE m cols row col n) ∧ H' = [own b [.int .i64 cols, .slice a m c] 61] := by
  refine Does.go (args := [.pointer (some ⟨b, 0, none⟩), .int .i64 row, .int .i64 col, .int .i64 n]) _ _ Try.func83 rfl Try.ntmps83 rfl rfl ?_
  refine Body.seq ?_
  refine Body.region ?_
  refine Ops.u (Dtu.asg (lk rfl)) rfl ?_
  refine Ops.nil ?_
  refine Then.next ?_
  refine Body.seq ?_
  refine Body.region ?_
  refine Ops.u (Dtu.mv (lk rfl)) rfl ?_
  refine Ops.u (Dtu.mv (lk rfl)) rfl ?_
  refine Ops.u (Dtu.mv (lk rfl)) rfl ?_
  refine Ops.s (Stp.callOwn [0] rfl rfl Try.call80 (lks rfl) (fun E' le hat => ghas_ok E' _ _ _ _ _ _ _) ?_) rfl
  rintro _ _ ⟨rfl, rfl⟩
  refine Ops.u (Dtu.asg (lk rfl)) rfl ?_
  refine Ops.nil ?_
  refine Then.next ?_
  refine Body.seq ?_
  refine Body.seq ?_
  refine Body.region ?_
  refine Ops.u (Dtu.mv (lk rfl)) rfl ?_
  refine Ops.u (Dtu.eql (lk rfl) (lk rfl)) rfl ?_
  refine Ops.u (Dtu.mv (lk rfl)) rfl ?_
  refine Ops.decP 16 rfl (fun c16 => ?_) (fun c16 => ?_)
  · refine Ops.gu rfl rfl rfl (Dtu.mv (lk rfl)) rfl ?_
    refine Ops.gu rfl rfl rfl (Dtu.lss (lk rfl) (lk rfl)) rfl ?_
    refine Ops.u (Dtu.pickT (lk rfl) (lk rfl)) rfl ?_
    refine Ops.nil ?_
    refine Then.next ?_
    refine Body.condP (lk rfl) (fun c19 => ?_) (fun c19 => ?_)
    · refine Body.region ?_
      refine Ops.u (Dtu.asg (lk rfl)) rfl ?_
      refine Ops.nil ?_
      refine Then.next ?_
      refine Body.seq ?_
      refine Body.region ?_
      refine Ops.u (Dtu.mv (lk rfl)) rfl ?_
      refine Ops.u (Dtu.asg (lk rfl)) rfl ?_
      refine Ops.nil ?_
      refine Then.next ?_
      refine Body.ret ?_
      (refine ⟨.inr rfl, _, pk [0] rfl, i64_eq ?_, rfl⟩; unfold cellsE; (repeat' split) <;> omega)
    · refine Body.skip ?_
      refine Then.next ?_
      refine Body.seq ?_
      refine Body.region ?_
      refine Ops.u (Dtu.mv (lk rfl)) rfl ?_
      refine Ops.u (Dtu.asg (lk rfl)) rfl ?_
      refine Ops.nil ?_
      refine Then.next ?_
      refine Body.ret ?_
      (refine ⟨.inr rfl, _, pk [0] rfl, i64_eq ?_, rfl⟩; unfold cellsE; (repeat' split) <;> omega)
  · refine Ops.gn rfl rfl rfl rfl rfl ?_
    refine Ops.gn rfl rfl rfl rfl rfl ?_
    refine Ops.u (Dtu.pickF (lk rfl) (lk rfl)) rfl ?_
    refine Ops.nil ?_
    refine Then.next ?_
    refine Body.condF (lk rfl) ?_
    refine Body.skip ?_
    refine Then.next ?_
    refine Body.seq ?_
    refine Body.region ?_
    refine Ops.u (Dtu.mv (lk rfl)) rfl ?_
    refine Ops.u (Dtu.asg (lk rfl)) rfl ?_
    refine Ops.nil ?_
    refine Then.next ?_
    refine Body.ret ?_
    (refine ⟨.inr rfl, _, pk [0] rfl, i64_eq ?_, rfl⟩; unfold cellsE; (repeat' split) <;> omega)
/-- cells from lo on up to hi are others -/
def fillR (cs : List Cell) (lo hi : Nat) (x : Cell) : List Cell := (List.range cs.length).map fun i => if lo ≤ i ∧ i < hi then x else cs[i]!
theorem fillR_len {cs : List Cell} {lo hi : Nat} {x : Cell} : (fillR cs lo hi x).length = cs.length := by simp [fillR]
theorem fillR_none {cs : List Cell} {lo hi : Nat} {x : Cell} (h : hi ≤ lo) : fillR cs lo hi x = cs := by
  refine List.ext_getElem (by simp [fillR]) fun i h1 h2 => ?_
  simp only [fillR, List.getElem_map, List.getElem_range]
  rw [if_neg (by omega), getElem!_pos cs i h2]
theorem fillR_set {cs : List Cell} {lo k : Nat} {x : Cell} (h1 : lo ≤ k) (h2 : k < cs.length) : (fillR cs lo k x).set k x = fillR cs lo (k + 1) x := by
  refine List.ext_getElem (by simp [fillR]) fun i h3 h4 => ?_
  rw [List.getElem_set]
  simp only [fillR, List.getElem_map, List.getElem_range]
  split
  · rw [if_pos (by omega)]
  · have : (lo ≤ i ∧ i < k) ↔ (lo ≤ i ∧ i < k + 1) := by omega
    simp only [this]
theorem gfill_ok (E : Env) (b : Nat) (cols : Int) (a : Option Addr) (m c : Nat) (rs : List Row) (hr : Fit cols rs) (row : Nat) (x y : Int) (p f g q : Int) (h : hasE rs.length cols row 0 = 0) : Does Try.prog 30 #[.pointer (some ⟨b, 0, none⟩), .int .i64 row, .int .i64 x, .int .i64 y, .agg #[.int .i32 p, .int .u8 f, .int .u32 g, .int .u32 q]] E (gridA b cols a m c rs) fun r H' => r = .int .i64 0 ∧ H' = gridA b cols a m c (setC rs row (fillR rs[row]!.cs x.toNat (min y cols).toNat ⟨p, f, g, q⟩)) := by
  have hh := has_yes h
  have hrow : row < rs.length := by omega
  have hl := hr.at hrow
  have hc := hr.c
  refine Does.pure (Sl.litLen (Sl.osl (t := 62) 1 rfl)) fun hm => ?_
  subst hm
  refine Does.conseq (grid_take row hrow) ?_
  refine Does.go (args := [.pointer (some ⟨b, 0, none⟩), .int .i64 row, .int .i64 x, .int .i64 y, .agg #[.int .i32 p, .int .u8 f, .int .u32 g, .int .u32 q]]) _ _ Try.func30 rfl Try.ntmps30 rfl rfl ?_
  refine Body.seq ?_
  refine Body.region ?_
  refine Ops.s (Stp.box (lk rfl) rfl (fun b9 => ?_)) rfl
  refine Ops.u (Dtu.asg (lk rfl)) rfl ?_
  refine Ops.nil ?_
  refine Then.next ?_
  refine Body.seq ?_
  refine Body.seq ?_
  refine Body.region ?_
  refine Ops.u (Dtu.mv (lk rfl)) rfl ?_
  refine Ops.u (Dtu.mv (lk rfl)) rfl ?_
  refine Ops.s (Stp.callOwn [1] rfl rfl Try.call80 (lks rfl) (fun E' le hat => ghas_ok E' _ _ _ _ _ _ _) ?_) rfl
  rintro _ _ ⟨rfl, rfl⟩
  refine Ops.u (Dtu.asg (lk rfl)) rfl ?_
  refine Ops.nil ?_
  refine Then.next ?_
  refine Body.seq ?_
  refine Body.region ?_
  refine Ops.u (Dtu.mv (lk rfl)) rfl ?_
  refine Ops.u (Dtu.neq (lk rfl) (lk rfl)) rfl ?_
  refine Ops.nil ?_
  refine Then.next ?_
  refine Body.condP (lk rfl) (fun hy => absurd hy (by first | omega | assumption | decide)) (fun _ => ?_)
  refine Body.skip ?_
  refine Then.next ?_
  refine Body.seq ?_
  refine Body.seq ?_
  refine Body.region ?_
  refine Ops.u (Dtu.mv (lk rfl)) rfl ?_
  refine Ops.u (Dtu.max (lk rfl) (lk rfl)) rfl ?_
  refine Ops.u (Dtu.asg (lk rfl)) rfl ?_
  refine Ops.nil ?_
  refine Then.next ?_
  refine Body.block ?_
  refine Body.conseq (H' := [own b [.int .i64 cols, .slice a rs.length c] 61, own b9 [.int .i32 p, .int .u8 f, .int .u32 g, .int .u32 q] 39, osl 62 1 (.slice a rs.length c) rs.length (rs.map Row.hd), osl 39 4 rs[row]!.hd rs[row]!.cs.length ((fillR rs[row]!.cs x.toNat x.toNat ⟨p, f, g, q⟩).flatMap Cell.enc), many ((rs.eraseIdx row).map Row.own)]) (fun w s => by rw [fillR_none (Nat.le_refl _)]; exact s) ?_
  refine Body.loopF (γ := Nat) rfl (fun k => [(12, .int .i64 k)]) (fun k => [own b [.int .i64 cols, .slice a rs.length c] 61, own b9 [.int .i32 p, .int .u8 f, .int .u32 g, .int .u32 q] 39, osl 62 1 (.slice a rs.length c) rs.length (rs.map Row.hd), osl 39 4 rs[row]!.hd rs[row]!.cs.length ((fillR rs[row]!.cs x.toNat k ⟨p, f, g, q⟩).flatMap Cell.enc), many ((rs.eraseIdx row).map Row.own)]) (fun k => x.toNat ≤ k ∧ (k = x.toNat ∨ k ≤ (min y cols).toNat)) (fun k => rs[row]!.cs.length - k) x.toNat ⟨Nat.le_refl _, .inl rfl⟩ ⟨int_eq (by omega), trivial⟩ rfl ?_
  rintro k u ⟨hk1, hk2⟩
  have hfl := fillR_len (cs := rs[row]!.cs) (lo := x.toNat) (hi := k) (x := ⟨p, f, g, q⟩)
  refine Body.seq ?_
  refine Body.seq ?_
  refine Body.region ?_
  refine Ops.u (Dtu.mv (lk rfl)) rfl ?_
  refine Ops.u (Dtu.mv (lk rfl)) rfl ?_
  refine Ops.u (Dtu.mv (lk rfl)) rfl ?_
  refine Ops.u (Dtu.nilck (lk rfl)) rfl ?_
  refine Ops.u (Dtu.fld fa61_0 (lk rfl)) rfl ?_
  refine Ops.d (Det.ld Try.isAgg3 (lk rfl) (Rd.ow 0 rfl rfl)) rfl ?_
  refine Ops.u (Dtu.min (lk rfl) (lk rfl)) rfl ?_
  refine Ops.u (Dtu.lss (lk rfl) (lk rfl)) rfl ?_
  refine Ops.nil ?_
  refine Then.next ?_
  refine Body.condP (lk rfl) (fun c28 => ?_) (fun c28 => ?_)
  · have hkl : k < rs[row]!.cs.length := by omega
    have hset := fillR_set (x := ⟨p, f, g, q⟩) hk1 hkl
    refine Body.skip ?_
    refine Then.next ?_
    refine Body.seq ?_
    refine Body.block ?_
    refine Body.draw mixed ?_
    refine AB.u 0 rfl (by decide +kernel) (Dtu.mv (lk rfl)) rfl ?_
    refine AB.u 1 rfl (by decide +kernel) (Dtu.nilck (lk rfl)) rfl ?_
    refine AB.u 2 rfl (by decide +kernel) (Dtu.fld fa61_1 (lk rfl)) rfl ?_
    refine AB.d 3 rfl (by decide +kernel) rfl (Det.ld Try.isAgg59 (lk rfl) (Rd.ow 0 rfl rfl)) rfl ?_
    refine AB.u 4 rfl (by decide +kernel) (Dtu.mv (lk rfl)) rfl ?_
    refine AB.u 5 rfl (by decide +kernel) (Dtu.ix (i := (row)) Try.underlying59 Try.sizeOf62 (Sl.osl 2 rfl) (lk rfl) (lk rfl) (by omega) (by omega)) rfl ?_
    refine AB.d 6 rfl (by decide +kernel) rfl (Det.ld Try.isAgg62 (lk rfl) (Rd.sl (Sl.osl 2 rfl) (gm (by omega)))) rfl ?_
    refine AB.u 7 rfl (by decide +kernel) (Dtu.mv (lk rfl)) rfl ?_
    refine AB.d 8 rfl (by decide +kernel) rfl (Det.lda Try.isAgg39 Try.sizeOf39 (lk rfl) (Rds.ow (m := 4) 1 rfl rfl) rfl) rfl ?_
    refine AB.u 9 rfl (by decide +kernel) (Dtu.ix (i := (k)) Try.underlying62 Try.sizeOf39 (Sl.osl 3 rfl) (lk rfl) (lk rfl) (by omega) (by omega)) rfl ?_
    refine AB.e 10 rfl (by decide +kernel) (by decide +kernel) (Stp.storeF 3 (en := Cell.enc) (y := ⟨_, _, _, _⟩) (fun _ => rfl) Try.sizeOf39 rfl (lk rfl) (lk rfl) rfl (by omega) (by omega) rfl ?_)
    refine AB.done (by decide +kernel) ?_
    refine Blk.norm ?_
    refine Then.next ?_
    refine Body.region ?_
    refine Ops.u (Dtu.mv (lk rfl)) rfl ?_
    refine Ops.u (Dtu.add (lk rfl) (lk rfl) (w64 (by omega) (by omega))) rfl ?_
    refine Ops.u (Dtu.asg (lk rfl)) rfl ?_
    refine Ops.nil ?_
    rw [hset]
    exact Round.goF (k + 1) rfl rfl rfl ⟨int_eq (by omega), trivial⟩ rfl ⟨by omega, by omega⟩ (by omega)
  · refine Body.exit ?_
    refine Then.exit ?_
    refine Round.exit ?_
    refine Blk.here ?_
    refine Then.next ?_
    refine Body.seq ?_
    refine Body.region ?_
    refine Ops.u (Dtu.asg (lk rfl)) rfl ?_
    refine Ops.nil ?_
    refine Then.next ?_
    refine Body.ret ?_
    have e : fillR rs[row]!.cs x.toNat k ⟨p, f, g, q⟩ = fillR rs[row]!.cs x.toNat (min y cols).toNat ⟨p, f, g, q⟩ := by
      rcases hk2 with hk2 | hk2
      · rw [fillR_none (by omega), fillR_none (by omega)]
      · rw [show k = (min y cols).toNat by omega]
    refine ⟨.inr rfl, _, fun w s => grid_put row hrow _ fillR_len w ?_, rfl, rfl⟩
    rw [← e]
    exact pk [3, 3, 0, 1] rfl w s
end Go.Proofs.Ytpmapedhigjalaa
end
section
/- A grid: Insert. -/
namespace Go.Proofs.Ytpmapedhigjalaa
set_option maxRecDepth 100000
set_option linter.unusedVariables false
set_option linter.unusedSimpArgs false
open Go.Sx

theorem lies_sub {E : Env} {H : List HProp} {v d : Value} {sz lo dl x y : Nat} {vs : List Value} (hs : Sl E H sz d dl vs) (h : LiesIn E H v sz d lo dl) (h1 : x ≤ y) (h2 : y ≤ dl) : LiesIn E H v sz (subSl d sz x y (capOf d)) (lo + x) (y - x) := fun w s => by
  obtain ⟨hc, hm, a0, hd⟩ := (hs w s).cap
  have h' := h w s
  clear hs h
  generalize capOf d = cc at hc hm hd ⊢
  subst hd
  by_cases hz : y - x = 0
  · exact .inl ⟨hz, _, _, by simp only [subSl, hz]; rfl⟩
  · rcases h' with ⟨h0, _⟩ | ⟨c, he⟩
    · omega
    · simp only [Value.slice.injEq] at he
      obtain ⟨rfl, _, rfl⟩ := he
      refine .inr ⟨cc - x, ?_⟩
      simp only [subSl]
      rw [if_neg (by omega)]
      simp only [Option.map_some, Addr.add]
      by_cases hx : x * sz = 0
      · rw [if_pos hx, Nat.add_mul, hx, Nat.add_zero]
      · rw [if_neg hx, Nat.add_mul, Nat.add_assoc]
/-- cells that move to the right, to the left -/
def insR (cs : List Cell) (col N : Nat) (x : Cell) : List Cell := cs.take col ++ (List.replicate N x ++ (cs.drop col).take (cs.length - col - N))
def delR (cs : List Cell) (col N : Nat) (x : Cell) : List Cell := cs.take col ++ (cs.drop (col + N) ++ List.replicate N x)
theorem insR_len {cs : List Cell} {col N : Nat} {x : Cell} (hc : col ≤ cs.length) (hN : N ≤ cs.length - col) : (insR cs col N x).length = cs.length := by
  simp [insR]; omega
theorem ins_eq {cs : List Cell} {col N : Nat} {x : Cell} (hc : col ≤ cs.length) (hN : N ≤ cs.length - col) :
    (cs.take (col + N) ++ (((cs.drop col).take (cs.length - col)).drop 0 |>.take (cs.length - col - N - 0)).take ((cs.length - col - N - 0).min (cs.length - col - N)) ++ cs.drop (col + N + (cs.length - col - N - 0).min (cs.length - col - N))).take col
      ++ (List.replicate N x).take ((List.replicate N x).length.min (cs.length - col))
      ++ (cs.take (col + N) ++ (((cs.drop col).take (cs.length - col)).drop 0 |>.take (cs.length - col - N - 0)).take ((cs.length - col - N - 0).min (cs.length - col - N)) ++ cs.drop (col + N + (cs.length - col - N - 0).min (cs.length - col - N))).drop (col + (List.replicate N x).length.min (cs.length - col)) = insR cs col N x := by
  have e1 : (cs.length - col - N - 0).min (cs.length - col - N) = cs.length - col - N := Nat.min_self _
  have e2 : (List.replicate N x).length.min (cs.length - col) = N := by rw [List.length_replicate]; exact Nat.min_eq_left hN
  have e3 : cs.drop (col + N + (cs.length - col - N)) = [] := List.drop_eq_nil_of_le (by omega)
  have e4 : (cs.drop col).take (cs.length - col) = cs.drop col := List.take_of_length_le (by simp)
  have e5 : (List.replicate N x).take N = List.replicate N x := List.take_of_length_le (by simp)
  have l1 : (cs.take (col + N)).length = col + N := by simp; omega
  rw [e1, e2, e3, e4, List.append_nil, List.drop_zero, Nat.sub_zero, List.take_take, Nat.min_self, List.take_append_of_le_length (by omega), List.take_take, Nat.min_eq_left (by omega), List.drop_append_of_le_length (by omega), List.drop_eq_nil_of_le (by omega), List.nil_append, e5]
  unfold insR
  rw [List.append_assoc]
theorem ginsert_ok (E : Env) (b : Nat) (cols : Int) (a : Option Addr) (m c : Nat) (rs : List Row) (hr : Fit cols rs) (row col n : Nat) (p f g q : Int) (h : cellsE rs.length cols row col n = 0) : Does Try.prog 26 #[.pointer (some ⟨b, 0, none⟩), .int .i64 row, .int .i64 col, .int .i64 n, .agg #[.int .i32 p, .int .u8 f, .int .u32 g, .int .u32 q]] E (gridA b cols a m c rs) fun r H' => r = .int .i64 0 ∧ H' = gridA b cols a m c (setC rs row (insR rs[row]!.cs col (min n (rs[row]!.cs.length - col)) ⟨p, f, g, q⟩)) := by
  have h2 : hasE rs.length cols row col = 0 := by unfold cellsE at h; (repeat' split at h) <;> omega
  have hh := has_yes h2
  have hrow : row < rs.length := by omega
  have hl := hr.at hrow
  have hc := hr.c
  refine Does.pure (Sl.litLen (Sl.osl (t := 62) 1 rfl)) fun hm => ?_
  subst hm
  refine Does.conseq (grid_take row hrow) ?_
  refine Does.go (args := [.pointer (some ⟨b, 0, none⟩), .int .i64 row, .int .i64 col, .int .i64 n, .agg #[.int .i32 p, .int .u8 f, .int .u32 g, .int .u32 q]]) _ _ Try.func26 rfl Try.ntmps26 rfl rfl ?_
  refine Body.seq ?_
  refine Body.region ?_
  refine Ops.s (Stp.box (lk rfl) rfl (fun b9 => ?_)) rfl
  refine Ops.u (Dtu.asg (lk rfl)) rfl ?_
  refine Ops.nil ?_
  refine Then.next ?_
  refine Body.seq ?_
  refine Body.seq ?_
  refine Body.region ?_
  refine Ops.u (Dtu.mv (lk rfl)) rfl ?_
  refine Ops.u (Dtu.mv (lk rfl)) rfl ?_
  refine Ops.u (Dtu.mv (lk rfl)) rfl ?_
  refine Ops.u (Dtu.mv (lk rfl)) rfl ?_
  refine Ops.s (Stp.callOwn [1] rfl rfl Try.call83 (lks rfl) (fun E' le hat => gcells_ok E' _ _ _ _ _ _ _ _) ?_) rfl
  rintro _ _ ⟨rfl, rfl⟩
  refine Ops.u (Dtu.asg (lk rfl)) rfl ?_
  refine Ops.nil ?_
  refine Then.next ?_
  refine Body.seq ?_
  refine Body.region ?_
  refine Ops.u (Dtu.mv (lk rfl)) rfl ?_
  refine Ops.u (Dtu.neq (lk rfl) (lk rfl)) rfl ?_
  refine Ops.nil ?_
  refine Then.next ?_
  refine Body.condP (lk rfl) (fun hy => absurd hy (by first | omega | assumption | decide)) (fun _ => ?_)
  refine Body.skip ?_
  refine Then.next ?_
  refine Body.seq ?_
  refine Body.region ?_
  refine Ops.u (Dtu.mv (lk rfl)) rfl ?_
  refine Ops.u (Dtu.nilck (lk rfl)) rfl ?_
  refine Ops.u (Dtu.fld fa61_1 (lk rfl)) rfl ?_
  refine Ops.d (Det.ld Try.isAgg59 (lk rfl) (Rd.ow 0 rfl rfl)) rfl ?_
  refine Ops.u (Dtu.mv (lk rfl)) rfl ?_
  refine Ops.u (Dtu.ix (i := (row)) Try.underlying59 Try.sizeOf62 (Sl.osl 2 rfl) (lk rfl) (lk rfl) (by omega) (by omega)) rfl ?_
  refine Ops.d (Det.ld Try.isAgg62 (lk rfl) (Rd.sl (Sl.osl 2 rfl) (gm (by omega)))) rfl ?_
  refine Ops.u (Dtu.mv (lk rfl)) rfl ?_
  refine Ops.u (Dtu.slL (col) Try.underlying62 Try.sizeOf39 (Sl.osl 3 rfl) (lk rfl) (lk rfl) (by omega) (by omega)) rfl ?_
  refine Ops.u (Dtu.asg (lk rfl)) rfl ?_
  refine Ops.nil ?_
  refine Then.next ?_
  refine Body.seq ?_
  refine Body.region ?_
  refine Ops.u (Dtu.mv (lk rfl)) rfl ?_
  refine Ops.u (Dtu.mv (lk rfl)) rfl ?_
  refine Ops.u (Dtu.lenS Try.underlying62 (Sl.subF (enc := Cell.enc) (fun _ => rfl) (Sl.osl 3 rfl) _ _ (by omega) (by omega)) (lk rfl)) rfl ?_
  refine Ops.u (Dtu.min (lk rfl) (lk rfl)) rfl ?_
  refine Ops.u (Dtu.asg (lk rfl)) rfl ?_
  refine Ops.nil ?_
  refine Then.next ?_
  have e1 : min (n : Int) ((rs[row]!.cs.length - col : Nat) : Int) = ((min n (rs[row]!.cs.length - col) : Nat) : Int) := by omega
  rw [e1]
  have hN : min n (rs[row]!.cs.length - col) ≤ rs[row]!.cs.length - col := Nat.min_le_right _ _
  generalize hNe : min n (rs[row]!.cs.length - col) = N at *
  have hB : ∀ x : Cell, x.enc.length = 4 := fun _ => rfl
  have hs1 := Sl.subF hB (E := E) (H := [own b [.int .i64 cols, .slice a rs.length c] 61, own b9 [.int .i32 p, .int .u8 f, .int .u32 g, .int .u32 q] 39, osl 62 1 (.slice a rs.length c) rs.length (rs.map Row.hd), rs[row]!.own, many ((rs.eraseIdx row).map Row.own)]) (Sl.osl (t := 39) 3 rfl) col rs[row]!.cs.length (by omega) (by omega)
  have hs2 := Sl.subF hB hs1 N (rs[row]!.cs.length - col) (by omega) (by omega)
  have hs3 := Sl.subF hB hs1 0 (rs[row]!.cs.length - col - N) (by omega) (by omega)
  refine Body.seq ?_
  refine Body.draw mixed ?_
  refine AB.u 0 rfl (by decide +kernel) (Dtu.mv (lk rfl)) rfl ?_
  refine AB.u 1 rfl (by decide +kernel) (Dtu.mv (lk rfl)) rfl ?_
  refine AB.u 2 rfl (by decide +kernel) (Dtu.slL (N) Try.underlying62 Try.sizeOf39 hs1 (lk rfl) (lk rfl) (by omega) (by omega)) rfl ?_
  refine AB.u 3 rfl (by decide +kernel) (Dtu.mv (lk rfl)) rfl ?_
  refine AB.u 4 rfl (by decide +kernel) (Dtu.mv (lk rfl)) rfl ?_
  refine AB.u 5 rfl (by decide +kernel) (Dtu.lenS Try.underlying62 hs1 (lk rfl)) rfl ?_
  refine AB.u 6 rfl (by decide +kernel) (Dtu.mv (lk rfl)) rfl ?_
  refine AB.u 7 rfl (by decide +kernel) (Dtu.sub (lk rfl) (lk rfl) (w64 (by omega) (by omega))) rfl ?_
  refine AB.u 8 rfl (by decide +kernel) (Dtu.slH (rs[row]!.cs.length - col - N) Try.underlying62 Try.sizeOf39 hs1 (lk rfl) (lk rfl) (by omega) (by omega)) rfl ?_
  refine AB.s 9 rfl (by decide +kernel) (by decide +kernel) (Stp.copyF 3 hB Try.underlying62 Try.sizeOf39 rfl (lk rfl) (lies_sub hs1 (LiesIn.sub' (Sl.osl 3 rfl) (by omega) (by omega)) (by omega) (by omega)) (by omega) (lk rfl) hs3 (fun _ => rfl) rfl ?_) rfl
  clear hs1 hs2 hs3
  refine AB.done (by decide +kernel) ?_
  refine Then.next ?_
  refine Body.seq ?_
  refine Body.region ?_
  refine Ops.u (Dtu.mv (lk rfl)) rfl ?_
  refine Ops.u (Dtu.mv (lk rfl)) rfl ?_
  refine Ops.d (Det.lda Try.isAgg39 Try.sizeOf39 (lk rfl) (Rds.ow (m := 4) 1 rfl rfl) rfl) rfl ?_
  refine Ops.s (Stp.call rfl Try.call74 (lks rfl) (fun E' le hat => line_row E' _ _ _ _ _ (by omega) (by omega)) ?_) rfl
  rintro _ _ ⟨z47, hz47, rfl, rfl⟩
  have hz : z47.cs = List.replicate N ⟨p, f, g, q⟩ := by rw [hz47]; simp
  refine Ops.s (Stp.copyF 4 hB Try.underlying62 Try.sizeOf39 rfl (lk rfl) (LiesIn.sub' (Sl.osl (t := 39) 4 rfl) (by omega) (by omega)) (by omega) (lk rfl) (Sl.osl (t := 39) 0 rfl) (fun _ => rfl) rfl ?_) rfl
  rw [hz, ins_eq (by omega) hN]
  refine Ops.nil ?_
  refine Then.next ?_
  refine Body.seq ?_
  refine Body.region ?_
  refine Ops.u (Dtu.asg (lk rfl)) rfl ?_
  refine Ops.nil ?_
  refine Then.next ?_
  refine Body.ret ?_
  exact ⟨.inr rfl, _, fun w s => grid_put row hrow _ (insR_len (by omega) hN) w (pk [4, 4, 1, 2] rfl w s), rfl, rfl⟩
end Go.Proofs.Ytpmapedhigjalaa
end
section
/- A grid: Delete. -/
namespace Go.Proofs.Ytpmapedhigjalaa
set_option maxRecDepth 100000
set_option linter.unusedVariables false
set_option linter.unusedSimpArgs false
open Go.Sx

def delX (cs : List Cell) (col N : Nat) : List Cell := cs.take col ++ cs.drop (col + N) ++ cs.drop (col + (cs.length - col - N))
theorem del_start {cs : List Cell} {col N : Nat} (hc : col ≤ cs.length) (hN : N ≤ cs.length - col) :
    cs.take col ++ ((((cs.drop col).take (cs.length - col)).drop N).take (cs.length - col - N)).take ((cs.length - col - N).min (cs.length - col)) ++ cs.drop (col + (cs.length - col - N).min (cs.length - col)) = delX cs col N := by
  have e1 : (cs.length - col - N).min (cs.length - col) = cs.length - col - N := Nat.min_eq_left (by omega)
  have e4 : (cs.drop col).take (cs.length - col) = cs.drop col := List.take_of_length_le (by simp)
  have e5 : (cs.drop (col + N)).take (cs.length - col - N) = cs.drop (col + N) := List.take_of_length_le (by simp; omega)
  rw [e1, e4, List.drop_drop, e5, e5]
  rfl
theorem delX_len {cs : List Cell} {col N : Nat} (hc : col ≤ cs.length) (hN : N ≤ cs.length - col) : (delX cs col N).length = cs.length := by
  simp [delX]; omega
theorem delR_len {cs : List Cell} {col N : Nat} {x : Cell} (hc : col ≤ cs.length) (hN : N ≤ cs.length - col) : (delR cs col N x).length = cs.length := by
  simp [delR]; omega
theorem del_eq {cs : List Cell} {col N : Nat} {x : Cell} (hc : col ≤ cs.length) (hN : N ≤ cs.length - col) :
    (delX cs col N).take (col + (cs.length - col - N)) ++ (List.replicate N x).take ((List.replicate N x).length.min (cs.length - col - (cs.length - col - N))) ++ (delX cs col N).drop (col + (cs.length - col - N) + (List.replicate N x).length.min (cs.length - col - (cs.length - col - N))) = delR cs col N x := by
  have e2 : (List.replicate N x).length.min (cs.length - col - (cs.length - col - N)) = N := by rw [List.length_replicate]; exact Nat.min_eq_left (by omega)
  have e5 : (List.replicate N x).take N = List.replicate N x := List.take_of_length_le (by simp)
  have e6 : (delX cs col N).drop (col + (cs.length - col - N) + N) = [] := List.drop_eq_nil_of_le (by rw [delX_len hc hN]; omega)
  have e7 : (delX cs col N).take (col + (cs.length - col - N)) = cs.take col ++ cs.drop (col + N) := by
    unfold delX
    exact List.take_left' (by simp; omega)
  rw [e2, e5, e6, e7, List.append_nil]
  unfold delR
  rw [List.append_assoc]
theorem gdelete_ok (E : Env) (b : Nat) (cols : Int) (a : Option Addr) (m c : Nat) (rs : List Row) (hr : Fit cols rs) (row col n : Nat) (p f g q : Int) (h : cellsE rs.length cols row col n = 0) : Does Try.prog 27 #[.pointer (some ⟨b, 0, none⟩), .int .i64 row, .int .i64 col, .int .i64 n, .agg #[.int .i32 p, .int .u8 f, .int .u32 g, .int .u32 q]] E (gridA b cols a m c rs) fun r H' => r = .int .i64 0 ∧ H' = gridA b cols a m c (setC rs row (delR rs[row]!.cs col (min n (rs[row]!.cs.length - col)) ⟨p, f, g, q⟩)) := by
  have h2 : hasE rs.length cols row col = 0 := by unfold cellsE at h; (repeat' split at h) <;> omega
  have hh := has_yes h2
  have hrow : row < rs.length := by omega
  have hl := hr.at hrow
  have hc := hr.c
  refine Does.pure (Sl.litLen (Sl.osl (t := 62) 1 rfl)) fun hm => ?_
  subst hm
  refine Does.conseq (grid_take row hrow) ?_
  refine Does.go (args := [.pointer (some ⟨b, 0, none⟩), .int .i64 row, .int .i64 col, .int .i64 n, .agg #[.int .i32 p, .int .u8 f, .int .u32 g, .int .u32 q]]) _ _ Try.func27 rfl Try.ntmps27 rfl rfl ?_
  refine Body.seq ?_
  refine Body.region ?_
  refine Ops.s (Stp.box (lk rfl) rfl (fun b9 => ?_)) rfl
  refine Ops.u (Dtu.asg (lk rfl)) rfl ?_
  refine Ops.nil ?_
  refine Then.next ?_
  refine Body.seq ?_
  refine Body.seq ?_
  refine Body.region ?_
  refine Ops.u (Dtu.mv (lk rfl)) rfl ?_
  refine Ops.u (Dtu.mv (lk rfl)) rfl ?_
  refine Ops.u (Dtu.mv (lk rfl)) rfl ?_
  refine Ops.u (Dtu.mv (lk rfl)) rfl ?_
  refine Ops.s (Stp.callOwn [1] rfl rfl Try.call83 (lks rfl) (fun E' le hat => gcells_ok E' _ _ _ _ _ _ _ _) ?_) rfl
  rintro _ _ ⟨rfl, rfl⟩
  refine Ops.u (Dtu.asg (lk rfl)) rfl ?_
  refine Ops.nil ?_
  refine Then.next ?_
  refine Body.seq ?_
  refine Body.region ?_
  refine Ops.u (Dtu.mv (lk rfl)) rfl ?_
  refine Ops.u (Dtu.neq (lk rfl) (lk rfl)) rfl ?_
  refine Ops.nil ?_
  refine Then.next ?_
  refine Body.condP (lk rfl) (fun hy => absurd hy (by first | omega | assumption | decide)) (fun _ => ?_)
  refine Body.skip ?_
  refine Then.next ?_
  refine Body.seq ?_
  refine Body.region ?_
  refine Ops.u (Dtu.mv (lk rfl)) rfl ?_
  refine Ops.u (Dtu.nilck (lk rfl)) rfl ?_
  refine Ops.u (Dtu.fld fa61_1 (lk rfl)) rfl ?_
  refine Ops.d (Det.ld Try.isAgg59 (lk rfl) (Rd.ow 0 rfl rfl)) rfl ?_
  refine Ops.u (Dtu.mv (lk rfl)) rfl ?_
  refine Ops.u (Dtu.ix (i := (row)) Try.underlying59 Try.sizeOf62 (Sl.osl 2 rfl) (lk rfl) (lk rfl) (by omega) (by omega)) rfl ?_
  refine Ops.d (Det.ld Try.isAgg62 (lk rfl) (Rd.sl (Sl.osl 2 rfl) (gm (by omega)))) rfl ?_
  refine Ops.u (Dtu.mv (lk rfl)) rfl ?_
  refine Ops.u (Dtu.slL (col) Try.underlying62 Try.sizeOf39 (Sl.osl 3 rfl) (lk rfl) (lk rfl) (by omega) (by omega)) rfl ?_
  refine Ops.u (Dtu.asg (lk rfl)) rfl ?_
  refine Ops.nil ?_
  refine Then.next ?_
  refine Body.seq ?_
  refine Body.region ?_
  refine Ops.u (Dtu.mv (lk rfl)) rfl ?_
  refine Ops.u (Dtu.mv (lk rfl)) rfl ?_
  refine Ops.u (Dtu.lenS Try.underlying62 (Sl.subF (enc := Cell.enc) (fun _ => rfl) (Sl.osl 3 rfl) _ _ (by omega) (by omega)) (lk rfl)) rfl ?_
  refine Ops.u (Dtu.min (lk rfl) (lk rfl)) rfl ?_
  refine Ops.u (Dtu.asg (lk rfl)) rfl ?_
  refine Ops.nil ?_
  refine Then.next ?_
  have e1 : min (n : Int) ((rs[row]!.cs.length - col : Nat) : Int) = ((min n (rs[row]!.cs.length - col) : Nat) : Int) := by omega
  rw [e1]
  have hN : min n (rs[row]!.cs.length - col) ≤ rs[row]!.cs.length - col := Nat.min_le_right _ _
  generalize hNe : min n (rs[row]!.cs.length - col) = N at *
  have hB : ∀ x : Cell, x.enc.length = 4 := fun _ => rfl
  have hs1 := Sl.subF hB (E := E) (H := [own b [.int .i64 cols, .slice a rs.length c] 61, own b9 [.int .i32 p, .int .u8 f, .int .u32 g, .int .u32 q] 39, osl 62 1 (.slice a rs.length c) rs.length (rs.map Row.hd), rs[row]!.own, many ((rs.eraseIdx row).map Row.own)]) (Sl.osl (t := 39) 3 rfl) col rs[row]!.cs.length (by omega) (by omega)
  have hs2 := Sl.subF hB hs1 N (rs[row]!.cs.length - col) (by omega) (by omega)
  refine Body.seq ?_
  refine Body.region ?_
  refine Ops.u (Dtu.mv (lk rfl)) rfl ?_
  refine Ops.u (Dtu.mv (lk rfl)) rfl ?_
  refine Ops.u (Dtu.mv (lk rfl)) rfl ?_
  refine Ops.u (Dtu.slL (N) Try.underlying62 Try.sizeOf39 hs1 (lk rfl) (lk rfl) (by omega) (by omega)) rfl ?_
  refine Ops.s (Stp.copyF 3 hB Try.underlying62 Try.sizeOf39 rfl (lk rfl) (LiesIn.sub' (Sl.osl (t := 39) 3 rfl) (by omega) (by omega)) (by omega) (lk rfl) hs2 (fun _ => rfl) rfl ?_) rfl
  rw [del_start (by omega) hN]
  clear hs1 hs2
  have hdl := delX_len (cs := rs[row]!.cs) (col := col) (N := N) (by omega) hN
  have hs4 := Sl.subF hB (E := E) (H := [own b [.int .i64 cols, .slice a rs.length c] 61, own b9 [.int .i32 p, .int .u8 f, .int .u32 g, .int .u32 q] 39, osl 62 1 (.slice a rs.length c) rs.length (rs.map Row.hd), osl 39 4 rs[row]!.hd rs[row]!.cs.length ((delX rs[row]!.cs col N).flatMap Cell.enc), many ((rs.eraseIdx row).map Row.own)]) (Sl.osl (t := 39) 3 rfl) col rs[row]!.cs.length (by omega) (by omega)
  refine Ops.nil ?_
  refine Then.next ?_
  refine Body.seq ?_
  refine Body.draw mixed ?_
  refine AB.u 0 rfl (by decide +kernel) (Dtu.mv (lk rfl)) rfl ?_
  refine AB.u 1 rfl (by decide +kernel) (Dtu.mv (lk rfl)) rfl ?_
  refine AB.u 2 rfl (by decide +kernel) (Dtu.lenS Try.underlying62 hs4 (lk rfl)) rfl ?_
  refine AB.u 3 rfl (by decide +kernel) (Dtu.mv (lk rfl)) rfl ?_
  refine AB.u 4 rfl (by decide +kernel) (Dtu.sub (lk rfl) (lk rfl) (w64 (by omega) (by omega))) rfl ?_
  refine AB.u 5 rfl (by decide +kernel) (Dtu.slL (rs[row]!.cs.length - col - N) Try.underlying62 Try.sizeOf39 hs4 (lk rfl) (lk rfl) (by omega) (by omega)) rfl ?_
  refine AB.u 6 rfl (by decide +kernel) (Dtu.mv (lk rfl)) rfl ?_
  refine AB.d 7 rfl (by decide +kernel) rfl (Det.lda Try.isAgg39 Try.sizeOf39 (lk rfl) (Rds.ow (m := 4) 1 rfl rfl) rfl) rfl ?_
  refine AB.s 8 rfl (by decide +kernel) (by decide +kernel) (Stp.call rfl Try.call74 (lks rfl) (fun E' le hat => line_row E' _ _ _ _ _ (by omega) (by omega)) ?_) rfl
  rintro _ _ ⟨z47, hz47, rfl, rfl⟩
  have hz : z47.cs = List.replicate N ⟨p, f, g, q⟩ := by rw [hz47]; simp
  refine AB.s 9 rfl (by decide +kernel) (by decide +kernel) (Stp.copyF 4 hB Try.underlying62 Try.sizeOf39 rfl (lk rfl) (lies_sub (Sl.subF hB (Sl.osl (t := 39) 4 rfl) col rs[row]!.cs.length (by omega) (by omega)) (LiesIn.sub' (Sl.osl (t := 39) 4 rfl) (by omega) (by omega)) (by omega) (by omega)) (by omega) (lk rfl) (Sl.osl (t := 39) 0 rfl) (fun _ => rfl) rfl ?_) rfl
  rw [hz, del_eq (by omega) hN]
  refine AB.done (by decide +kernel) ?_
  refine Then.next ?_
  refine Body.seq ?_
  refine Body.region ?_
  refine Ops.u (Dtu.asg (lk rfl)) rfl ?_
  refine Ops.nil ?_
  refine Then.next ?_
  refine Body.ret ?_
  exact ⟨.inr rfl, _, fun w s => grid_put row hrow _ (delR_len (by omega) hN) w (pk [4, 4, 1, 2] rfl w s), rfl, rfl⟩
end Go.Proofs.Ytpmapedhigjalaa
end
section
/- A grid: rows that move down, in plain words. -/
namespace Go.Proofs.Ytpmapedhigjalaa
set_option maxRecDepth 100000
set_option linter.unusedVariables false
set_option linter.unusedSimpArgs false
open Go.Sx

/-- the headers behind the copy -/
def hdB (t L N : Nat) (rs : List Row) : List Row := rs.take (t + N) ++ (rs.drop t).take (L - N) ++ rs.drop (t + L)
/-- the headers while new lines come in ahead -/
def hdD (t L N : Nat) (rs z : List Row) : List Row := rs.take t ++ (z ++ (hdB t L N rs).drop (t + z.length))
def rsD (t L N : Nat) (rs z : List Row) : List Row := rs.take t ++ (z ++ ((rs.drop t).take (L - N) ++ rs.drop (t + L)))
theorem hdB_len {t L N : Nat} {rs : List Row} (hN : N ≤ L) (hL : t + L ≤ rs.length) : (hdB t L N rs).length = rs.length := by
  simp [hdB]; omega
theorem hdD_start {t L N : Nat} {rs : List Row} (hN : N ≤ L) (hL : t + L ≤ rs.length) :
    rs.take (t + N) ++ ((((rs.drop t).take L).drop 0).take (L - N - 0)).take ((L - N - 0).min (L - N)) ++ rs.drop (t + N + (L - N - 0).min (L - N)) = hdD t L N rs [] := by
  have e : (L - N - 0).min (L - N) = L - N := Nat.min_self _
  have e2 : ((rs.drop t).take L).take (L - N) = (rs.drop t).take (L - N) := by rw [List.take_take, Nat.min_eq_left (by omega)]
  have e3 : t + N + (L - N) = t + L := by omega
  have e4 : rs.take t = (hdB t L N rs).take t := by
    unfold hdB
    rw [List.append_assoc, List.take_append_of_le_length (by simp; omega), List.take_take, Nat.min_eq_left (by omega)]
  have e5 : hdD t L N rs [] = hdB t L N rs := by
    unfold hdD
    rw [e4, List.nil_append, List.length_nil, Nat.add_zero, List.take_append_drop]
  rw [e5, e, e3, List.drop_zero, Nat.sub_zero, e2, List.take_take, Nat.min_self]
  rfl
theorem hdD_len {t L N : Nat} {rs z : List Row} (hN : N ≤ L) (hL : t + L ≤ rs.length) (hz : z.length ≤ N) : (hdD t L N rs z).length = rs.length := by
  have := hdB_len (rs := rs) hN hL
  simp [hdD, this]; omega
theorem hdD_set {t L N : Nat} {rs z : List Row} (r : Row) (hN : N ≤ L) (hL : t + L ≤ rs.length) (hz : z.length < N) : (hdD t L N rs z).set (t + z.length) r = hdD t L N rs (z ++ [r]) := by
  have hb := hdB_len (rs := rs) hN hL
  have l1 : (rs.take t).length = t := by simp; omega
  unfold hdD
  rw [List.set_append_right _ _ (by omega), l1, List.set_append_right _ _ (by omega), show t + z.length - t - z.length = 0 by omega]
  have hd : (hdB t L N rs).drop (t + z.length) = (hdB t L N rs)[t + z.length]'(by omega) :: (hdB t L N rs).drop (t + z.length + 1) := List.drop_eq_getElem_cons (by omega)
  rw [hd, List.set_cons_zero, List.length_append, List.append_assoc]
  rfl
theorem hdD_end {t L N : Nat} {rs z : List Row} (hN : N ≤ L) (hL : t + L ≤ rs.length) (hz : z.length = N) : hdD t L N rs z = rsD t L N rs z := by
  unfold hdD rsD hdB
  rw [hz, List.append_assoc, List.drop_left' (by simp; omega)]
theorem rsD_len {t L N : Nat} {rs z : List Row} (hN : N ≤ L) (hL : t + L ≤ rs.length) (hz : z.length = N) : (rsD t L N rs z).length = rs.length := by
  rw [← hdD_end hN hL hz, hdD_len hN hL (by omega)]
theorem many_moveD {E : Env} {t L N : Nat} {rs z : List Row} {H : List HProp} {w : World} (hN : N ≤ L) (s : St E (many (rs.map Row.own) :: many (z.map Row.own) :: H) w) : St E (many ((rsD t L N rs z).map Row.own) :: H) w := by
  have s1 := many_iff.1 s
  have s2 : St E (rs.map Row.own ++ (z.map Row.own ++ H)) w := by
    have := s1.perm (List.perm_middle (a := many (z.map Row.own)))
    have := many_iff.1 this
    refine this.perm ?_
    classical
    rw [List.perm_iff_count]
    intro x
    simp only [List.count_append]
    omega
  have e := congrArg (List.map Row.own) (split4 t L (L - N) rs (by omega))
  rw [show L - (L - N) = N by omega] at e
  simp only [List.map_append] at e
  rw [e] at s2
  have p : ∀ (A M X D Z H : List HProp), ((A ++ (M ++ (X ++ D))) ++ (Z ++ H)).Perm ((A ++ (Z ++ (M ++ D))) ++ H ++ X) := by
    intro A M X D Z H
    classical
    rw [List.perm_iff_count]
    intro x
    simp only [List.count_append]
    omega
  have s3 := (s2.perm (p _ _ _ _ _ _)).drop_tail
  refine many_iff.2 ?_
  simp only [rsD, List.map_append]
  exact s3
end Go.Proofs.Ytpmapedhigjalaa
end
section
/- A grid: Down. -/
namespace Go.Proofs.Ytpmapedhigjalaa
set_option maxRecDepth 100000
set_option linter.unusedVariables false
set_option linter.unusedSimpArgs false
open Go.Sx

theorem gdown_ok (E : Env) (b : Nat) (cols : Int) (a : Option Addr) (m c : Nat) (rs : List Row) (hr : Fit cols rs) (t u n : Nat) (p f g q : Int) (h : rowsE rs.length t u n = 0) : Does Try.prog 25 #[.pointer (some ⟨b, 0, none⟩), .int .i64 t, .int .i64 u, .int .i64 n, .agg #[.int .i32 p, .int .u8 f, .int .u32 g, .int .u32 q]] E (gridA b cols a m c rs) fun r H' => ∃ z, z.length = min n (u + 1 - t) ∧ (∀ x ∈ z, x.cs = List.replicate cols.toNat ⟨p, f, g, q⟩) ∧ r = .int .i64 0 ∧ H' = gridA b cols a m c (rsD t (u + 1 - t) (min n (u + 1 - t)) rs z) := by
  have hh := rows_yes h
  have hc := hr.c
  have hn := hr.n
  refine Does.pure (Sl.litLen (Sl.osl (t := 62) 1 rfl)) fun hm => ?_
  subst hm
  refine Does.go (args := [.pointer (some ⟨b, 0, none⟩), .int .i64 t, .int .i64 u, .int .i64 n, .agg #[.int .i32 p, .int .u8 f, .int .u32 g, .int .u32 q]]) _ _ Try.func25 rfl Try.ntmps25 rfl rfl ?_
  refine Body.seq ?_
  refine Body.region ?_
  refine Ops.s (Stp.box (lk rfl) rfl (fun b9 => ?_)) rfl
  refine Ops.u (Dtu.asg (lk rfl)) rfl ?_
  refine Ops.nil ?_
  refine Then.next ?_
  refine Body.seq ?_
  refine Body.seq ?_
  refine Body.region ?_
  refine Ops.u (Dtu.mv (lk rfl)) rfl ?_
  refine Ops.u (Dtu.mv (lk rfl)) rfl ?_
  refine Ops.u (Dtu.mv (lk rfl)) rfl ?_
  refine Ops.u (Dtu.mv (lk rfl)) rfl ?_
  refine Ops.s (Stp.callOwn [1] rfl rfl Try.call82 (lks rfl) (fun E' le hat => grows_ok E' _ _ _ _ _ _ _ _) ?_) rfl
  rintro _ _ ⟨rfl, rfl⟩
  refine Ops.u (Dtu.asg (lk rfl)) rfl ?_
  refine Ops.nil ?_
  refine Then.next ?_
  refine Body.seq ?_
  refine Body.region ?_
  refine Ops.u (Dtu.mv (lk rfl)) rfl ?_
  refine Ops.u (Dtu.neq (lk rfl) (lk rfl)) rfl ?_
  refine Ops.nil ?_
  refine Then.next ?_
  refine Body.condP (lk rfl) (fun hy => absurd hy (by first | omega | assumption | decide)) (fun _ => ?_)
  refine Body.skip ?_
  refine Then.next ?_
  refine Body.seq ?_
  refine Body.region ?_
  refine Ops.u (Dtu.mv (lk rfl)) rfl ?_
  refine Ops.u (Dtu.nilck (lk rfl)) rfl ?_
  refine Ops.u (Dtu.fld fa61_1 (lk rfl)) rfl ?_
  refine Ops.d (Det.ld Try.isAgg59 (lk rfl) (Rd.ow 0 rfl rfl)) rfl ?_
  refine Ops.u (Dtu.mv (lk rfl)) rfl ?_
  refine Ops.u (Dtu.mv (lk rfl)) rfl ?_
  refine Ops.u (Dtu.add (lk rfl) (lk rfl) (w64 (by omega) (by omega))) rfl ?_
  refine Ops.u (Dtu.slLH (t) (u + 1) Try.underlying59 Try.sizeOf62 (Sl.osl 2 rfl) (lk rfl) (lk rfl) (lk rfl) (by omega) (by omega) (by omega) (by omega)) rfl ?_
  refine Ops.u (Dtu.asg (lk rfl)) rfl ?_
  refine Ops.nil ?_
  refine Then.next ?_
  refine Body.seq ?_
  refine Body.region ?_
  refine Ops.u (Dtu.mv (lk rfl)) rfl ?_
  refine Ops.u (Dtu.mv (lk rfl)) rfl ?_
  refine Ops.u (Dtu.lenS Try.underlying59 (Sl.subM (Sl.osl 2 rfl) _ _ (by omega) (by omega)) (lk rfl)) rfl ?_
  refine Ops.u (Dtu.min (lk rfl) (lk rfl)) rfl ?_
  refine Ops.u (Dtu.asg (lk rfl)) rfl ?_
  refine Ops.nil ?_
  refine Then.next ?_
  have e1 : min (n : Int) ((u + 1 - t : Nat) : Int) = ((min n (u + 1 - t) : Nat) : Int) := by omega
  rw [e1]
  have hN : min n (u + 1 - t) ≤ u + 1 - t := Nat.min_le_right _ _
  generalize hNe : min n (u + 1 - t) = N at *
  have hs1 := Sl.subM (gg := Row.hd) (E := E) (H := [own b [.int .i64 cols, .slice a rs.length c] 61, own b9 [.int .i32 p, .int .u8 f, .int .u32 g, .int .u32 q] 39, osl 62 1 (.slice a rs.length c) rs.length (rs.map Row.hd), many (rs.map Row.own)]) (Sl.osl 2 rfl) t (u + 1) (by omega) (by omega)
  have hs2 := Sl.subM hs1 N (u + 1 - t) (by omega) (by omega)
  have hs3 := Sl.subM hs1 0 (u + 1 - t - N) (by omega) (by omega)
  refine Body.seq ?_
  refine Body.draw mixed ?_
  refine AB.u 0 rfl (by decide +kernel) (Dtu.mv (lk rfl)) rfl ?_
  refine AB.u 1 rfl (by decide +kernel) (Dtu.mv (lk rfl)) rfl ?_
  refine AB.u 2 rfl (by decide +kernel) (Dtu.slL (N) Try.underlying59 Try.sizeOf62 hs1 (lk rfl) (lk rfl) (by omega) (by omega)) rfl ?_
  refine AB.u 3 rfl (by decide +kernel) (Dtu.mv (lk rfl)) rfl ?_
  refine AB.u 4 rfl (by decide +kernel) (Dtu.mv (lk rfl)) rfl ?_
  refine AB.u 5 rfl (by decide +kernel) (Dtu.lenS Try.underlying59 hs1 (lk rfl)) rfl ?_
  refine AB.u 6 rfl (by decide +kernel) (Dtu.mv (lk rfl)) rfl ?_
  refine AB.u 7 rfl (by decide +kernel) (Dtu.sub (lk rfl) (lk rfl) (w64 (by omega) (by omega))) rfl ?_
  refine AB.u 8 rfl (by decide +kernel) (Dtu.slH (u + 1 - t - N) Try.underlying59 Try.sizeOf62 hs1 (lk rfl) (lk rfl) (by omega) (by omega)) rfl ?_
  refine AB.s 9 rfl (by decide +kernel) (by decide +kernel) (Stp.copyM 2 (gg := Row.hd) Try.underlying59 Try.sizeOf62 rfl (lk rfl) (lies_sub hs1 (LiesIn.sub' (Sl.osl (t := 62) 2 rfl) (by omega) (by omega)) (by omega) (by omega)) (by omega) (lk rfl) hs3 (fun _ => rfl) rfl ?_) rfl
  rw [hdD_start hN (by omega)]
  clear hs1 hs2 hs3
  refine AB.done (by decide +kernel) ?_
  refine Then.next ?_
  refine Body.seq ?_
  refine Body.seq ?_
  refine Body.region ?_
  refine Ops.u (Dtu.mv (lk rfl)) rfl ?_
  refine Ops.u (Dtu.mv (lk rfl)) rfl ?_
  refine Ops.nil ?_
  refine Then.next ?_
  refine Body.block ?_
  refine Body.conseq (H' := [own b [.int .i64 cols, .slice a rs.length c] 61, own b9 [.int .i32 p, .int .u8 f, .int .u32 g, .int .u32 q] 39, osl 62 1 (.slice a rs.length c) rs.length ((hdD t (u + 1 - t) N rs []).map Row.hd), many (rs.map Row.own), many (([] : List Row).map Row.own)]) (fun w s => pk [1, 1, 1, 1, 0] rfl w (many_nil s)) ?_
  refine Body.loopF (γ := List Row) rfl (fun z => [(45, .int .i64 z.length)]) (fun z => [own b [.int .i64 cols, .slice a rs.length c] 61, own b9 [.int .i32 p, .int .u8 f, .int .u32 g, .int .u32 q] 39, osl 62 1 (.slice a rs.length c) rs.length ((hdD t (u + 1 - t) N rs z).map Row.hd), many (rs.map Row.own), many (z.map Row.own)]) (fun z => z.length ≤ N ∧ ∀ x ∈ z, x.cs = List.replicate cols.toNat ⟨p, f, g, q⟩) (fun z => N - z.length) [] ⟨by simp, by simp⟩ ⟨rfl, trivial⟩ rfl ?_
  rintro z w0 ⟨hz, hzc⟩
  have hlen := hdD_len (t := t) (L := u + 1 - t) (N := N) (rs := rs) (z := z) hN (by omega) hz
  have hs3 := Sl.subM (gg := Row.hd) (E := E) (H := [own b [.int .i64 cols, .slice a rs.length c] 61, own b9 [.int .i32 p, .int .u8 f, .int .u32 g, .int .u32 q] 39, osl 62 1 (.slice a rs.length c) rs.length ((hdD t (u + 1 - t) N rs z).map Row.hd), many (rs.map Row.own), many (z.map Row.own)]) (Sl.osl 2 rfl) t (u + 1) (by omega) (by omega)
  refine Body.seq ?_
  refine Body.region ?_
  refine Ops.u (Dtu.lss (lk rfl) (lk rfl)) rfl ?_
  refine Ops.nil ?_
  refine Then.next ?_
  refine Body.seq ?_
  refine Body.condP (lk rfl) (fun c46 => ?_) (fun c46 => ?_)
  · refine Body.skip ?_
    refine Then.next ?_
    refine Body.seq ?_
    refine Body.block ?_
    refine Body.seq ?_
    refine Body.region ?_
    refine Ops.u (Dtu.mv (lk rfl)) rfl ?_
    refine Ops.u (Dtu.asg (lk rfl)) rfl ?_
    refine Ops.nil ?_
    refine Then.next ?_
    refine Body.draw mixed ?_
    refine AB.u 0 rfl (by decide +kernel) (Dtu.mv (lk rfl)) rfl ?_
    refine AB.u 1 rfl (by decide +kernel) (Dtu.mv (lk rfl)) rfl ?_
    refine AB.u 2 rfl (by decide +kernel) (Dtu.mv (lk rfl)) rfl ?_
    refine AB.u 3 rfl (by decide +kernel) (Dtu.nilck (lk rfl)) rfl ?_
    refine AB.u 4 rfl (by decide +kernel) (Dtu.fld fa61_0 (lk rfl)) rfl ?_
    refine AB.d 5 rfl (by decide +kernel) rfl (Det.ld Try.isAgg3 (lk rfl) (Rd.ow 0 rfl rfl)) rfl ?_
    refine AB.d 6 rfl (by decide +kernel) rfl (Det.lda Try.isAgg39 Try.sizeOf39 (lk rfl) (Rds.ow (m := 4) 1 rfl rfl) rfl) rfl ?_
    refine AB.s 7 rfl (by decide +kernel) (by decide +kernel) (Stp.call rfl Try.call74 (lks rfl) (fun E' le hat => line_row E' _ _ _ _ _ (by omega) (by omega)) ?_) rfl
    rintro _ _ ⟨z55, hz55, rfl, rfl⟩
    refine AB.u 8 rfl (by decide +kernel) (Dtu.ix (i := (z.length)) Try.underlying59 Try.sizeOf62 (Sl.subM (Sl.osl 3 rfl) _ _ (by omega) (by omega)) (lk rfl) (lk rfl) (by omega) (by omega)) rfl ?_
    refine AB.pure (LiesIn.sub' (E := E) (v := .slice a rs.length c) (sz := 1) (m := rs.length) (vs := (hdD t (u + 1 - t) N rs z).map Row.hd) (lo := t) (hi := u + 1) (Sl.osl (t := 62) 3 rfl) (by omega) (by omega)) fun hlie => ?_
    obtain ⟨cc, hcc⟩ : ∃ cc, subSl (.slice a rs.length c) 1 t (u + 1) (capOf (.slice a rs.length c)) = .slice (some ⟨blkOf (.slice a rs.length c), offOf (.slice a rs.length c) + t * 1, none⟩) (u + 1 - t) cc := by
      rcases hlie with ⟨h0, _⟩ | h0
      · omega
      · exact h0
    have hp : Value.pointer (some ⟨blkOf (subSl (.slice a rs.length c) 1 t (u + 1) (capOf (.slice a rs.length c))), offOf (subSl (.slice a rs.length c) 1 t (u + 1) (capOf (.slice a rs.length c))) + z.length * 1, none⟩) = .pointer (some ⟨blkOf (.slice a rs.length c), offOf (.slice a rs.length c) + (t + z.length) * 1, none⟩) := by
      rw [hcc]
      simp only [blkOf, offOf, Nat.mul_one, Nat.add_assoc]
    have hset := hdD_set z55 hN (L := u + 1 - t) (t := t) (rs := rs) (z := z) (by omega) (by omega)
    refine AB.e 9 rfl (by decide +kernel) (by decide +kernel) (Stp.storeM 3 (e := z55) (gg := Row.hd) (k := t + z.length) Try.sizeOf62 rfl ((lk rfl).trans hp) (lk rfl) (fun _ => rfl) rfl (by omega) rfl ?_)
    rw [hset]
    refine AB.done (by decide +kernel) ?_
    refine Blk.norm ?_
    refine Then.next ?_
    refine Body.region ?_
    refine Ops.u (Dtu.add (lk rfl) (lk rfl) (w64 (by omega) (by omega))) rfl ?_
    refine Ops.u (Dtu.mv (lk rfl)) rfl ?_
    refine Ops.nil ?_
    refine Round.goW (z ++ [z55]) rfl rfl rfl ⟨int_eq (by simp), trivial⟩ (fun w s => ?_) ⟨by simp; omega, fun x hx => ?_⟩ (by simp; omega)
    · exact pk [1, 1, 1, 1, 0] rfl w (many_map_snoc (pk [0, 4, 0, 0, 0, 0] rfl w s))
    · rcases List.mem_append.1 hx with hx | hx
      · exact hzc x hx
      · rw [List.mem_singleton.1 hx]; exact hz55
  · refine Body.exit ?_
    refine Then.exit ?_
    refine Round.exit ?_
    refine Blk.here ?_
    refine Then.next ?_
    refine Body.seq ?_
    refine Body.region ?_
    refine Ops.u (Dtu.asg (lk rfl)) rfl ?_
    refine Ops.nil ?_
    refine Then.next ?_
    refine Body.ret ?_
    have hzl : z.length = N := by omega
    refine ⟨.inr rfl, _, fun w s => ?_, z, hzl, hzc, rfl, rfl⟩
    have s2 := many_moveD (t := t) hN (pk [3, 3, 0, 1] rfl w s)
    unfold gridA
    rw [rsD_len hN (by omega) hzl, ← hdD_end hN (by omega) hzl]
    rw [← hdD_end hN (by omega) hzl] at s2
    exact pk [1, 1, 0] rfl w s2
end Go.Proofs.Ytpmapedhigjalaa
end
section
/- A grid: Resize. -/
namespace Go.Proofs.Ytpmapedhigjalaa
set_option maxRecDepth 100000
set_option linter.unusedVariables false
set_option linter.unusedSimpArgs false
open Go.Sx

theorem gresize_no (E : Env) (b : Nat) (cols : Int) (a : Option Addr) (m c : Nat) (t u : Int) (p f g q : Int) (hm : 0 < m) (hf : fitsG t u = false) : Does Try.prog 31 #[.pointer (some ⟨b, 0, none⟩), .int .i64 t, .int .i64 u, .agg #[.int .i32 p, .int .u8 f, .int .u32 g, .int .u32 q]] E [own b [.int .i64 cols, .slice a m c] 61] fun r H' => r = .int .i64 1 ∧ H' = [own b [.int .i64 cols, .slice a m c] 61] := by
  refine Does.go (args := [.pointer (some ⟨b, 0, none⟩), .int .i64 t, .int .i64 u, .agg #[.int .i32 p, .int .u8 f, .int .u32 g, .int .u32 q]]) _ _ Try.func31 rfl Try.ntmps31 rfl rfl ?_
  refine Body.seq ?_
  refine Body.region ?_
  refine Ops.s (Stp.box (lk rfl) rfl (fun b7 => ?_)) rfl
  refine Ops.u (Dtu.asg (lk rfl)) rfl ?_
  refine Ops.nil ?_
  refine Then.next ?_
  refine Body.seq ?_
  refine Body.block ?_
  refine Body.seq ?_
  refine Body.region ?_
  refine Ops.u (Dtu.mv (lk rfl)) rfl ?_
  refine Ops.s (Stp.callOwn [1] rfl rfl Try.call85 (lks rfl) (fun E' le hat => gmade_ok E' _ _ _ _ _) ?_) rfl
  rintro _ _ ⟨rfl, rfl⟩
  refine Ops.u (Dtu.notP (lk rfl)) rfl ?_
  refine Ops.u (Dtu.asg (lk rfl)) rfl ?_
  refine Ops.nil ?_
  refine Then.next ?_
  refine Body.condP (lk rfl) (fun hy => absurd hy (by first | omega | assumption | decide)) (fun _ => ?_)
  refine Body.seq ?_
  refine Body.region ?_
  refine Ops.u (Dtu.mv (lk rfl)) rfl ?_
  refine Ops.u (Dtu.mv (lk rfl)) rfl ?_
  refine Ops.s (Stp.call rfl Try.call73 (lks rfl) (fun E' le hat => fits_ok E' _ _) ?_) rfl
  rintro _ _ ⟨rfl, rfl⟩
  refine Ops.u (Dtu.not (lk rfl)) rfl ?_
  refine Ops.u (Dtu.asg (lk rfl)) rfl ?_
  refine Ops.nil ?_
  refine Then.next ?_
  refine Body.cond (lk rfl) (fun _ => ?_) (fun hn => absurd hn (by first | (rw [hf]; decide) | simp [hf]))
  refine Body.seq ?_
  refine Body.region ?_
  refine Ops.u (Dtu.asg (lk rfl)) rfl ?_
  refine Ops.nil ?_
  refine Then.next ?_
  refine Body.ret ?_
  refine Blk.ret ?_
  refine Then.ret ?_
  exact ⟨.inr rfl, _, pk [0] rfl, rfl, rfl⟩
theorem ginsert_no (E : Env) (b : Nat) (cols : Int) (a : Option Addr) (m c : Nat) (t u n : Int) (p f g q : Int) (h : cellsE m cols t u n ≠ 0) : Does Try.prog 26 #[.pointer (some ⟨b, 0, none⟩), .int .i64 t, .int .i64 u, .int .i64 n, .agg #[.int .i32 p, .int .u8 f, .int .u32 g, .int .u32 q]] E [own b [.int .i64 cols, .slice a m c] 61] fun r H' => r = .int .i64 (cellsE m cols t u n) ∧ H' = [own b [.int .i64 cols, .slice a m c] 61] := by
  refine Does.go (args := [.pointer (some ⟨b, 0, none⟩), .int .i64 t, .int .i64 u, .int .i64 n, .agg #[.int .i32 p, .int .u8 f, .int .u32 g, .int .u32 q]]) _ _ Try.func26 rfl Try.ntmps26 rfl rfl ?_
  refine Body.seq ?_
  refine Body.region ?_
  refine Ops.s (Stp.box (lk rfl) rfl (fun b9 => ?_)) rfl
  refine Ops.u (Dtu.asg (lk rfl)) rfl ?_
  refine Ops.nil ?_
  refine Then.next ?_
  refine Body.seq ?_
  refine Body.seq ?_
  refine Body.region ?_
  refine Ops.u (Dtu.mv (lk rfl)) rfl ?_
  refine Ops.u (Dtu.mv (lk rfl)) rfl ?_
  refine Ops.u (Dtu.mv (lk rfl)) rfl ?_
  refine Ops.u (Dtu.mv (lk rfl)) rfl ?_
  refine Ops.s (Stp.callOwn [1] rfl rfl Try.call83 (lks rfl) (fun E' le hat => gcells_ok E' _ _ _ _ _ _ _ _) ?_) rfl
  rintro _ _ ⟨rfl, rfl⟩
  refine Ops.u (Dtu.asg (lk rfl)) rfl ?_
  refine Ops.nil ?_
  refine Then.next ?_
  refine Body.seq ?_
  refine Body.region ?_
  refine Ops.u (Dtu.mv (lk rfl)) rfl ?_
  refine Ops.u (Dtu.neq (lk rfl) (lk rfl)) rfl ?_
  refine Ops.nil ?_
  refine Then.next ?_
  refine Body.condP (lk rfl) (fun _ => ?_) (fun hn => absurd (by first | omega | assumption | decide) hn)
  refine Body.seq ?_
  refine Body.region ?_
  refine Ops.u (Dtu.mv (lk rfl)) rfl ?_
  refine Ops.u (Dtu.asg (lk rfl)) rfl ?_
  refine Ops.nil ?_
  refine Then.next ?_
  refine Body.ret ?_
  refine Then.ret ?_
  exact ⟨.inr rfl, _, pk [0] rfl, rfl, rfl⟩
theorem gdelete_no (E : Env) (b : Nat) (cols : Int) (a : Option Addr) (m c : Nat) (t u n : Int) (p f g q : Int) (h : cellsE m cols t u n ≠ 0) : Does Try.prog 27 #[.pointer (some ⟨b, 0, none⟩), .int .i64 t, .int .i64 u, .int .i64 n, .agg #[.int .i32 p, .int .u8 f, .int .u32 g, .int .u32 q]] E [own b [.int .i64 cols, .slice a m c] 61] fun r H' => r = .int .i64 (cellsE m cols t u n) ∧ H' = [own b [.int .i64 cols, .slice a m c] 61] := by
  refine Does.go (args := [.pointer (some ⟨b, 0, none⟩), .int .i64 t, .int .i64 u, .int .i64 n, .agg #[.int .i32 p, .int .u8 f, .int .u32 g, .int .u32 q]]) _ _ Try.func27 rfl Try.ntmps27 rfl rfl ?_
  refine Body.seq ?_
  refine Body.region ?_
  refine Ops.s (Stp.box (lk rfl) rfl (fun b9 => ?_)) rfl
  refine Ops.u (Dtu.asg (lk rfl)) rfl ?_
  refine Ops.nil ?_
  refine Then.next ?_
  refine Body.seq ?_
  refine Body.seq ?_
  refine Body.region ?_
  refine Ops.u (Dtu.mv (lk rfl)) rfl ?_
  refine Ops.u (Dtu.mv (lk rfl)) rfl ?_
  refine Ops.u (Dtu.mv (lk rfl)) rfl ?_
  refine Ops.u (Dtu.mv (lk rfl)) rfl ?_
  refine Ops.s (Stp.callOwn [1] rfl rfl Try.call83 (lks rfl) (fun E' le hat => gcells_ok E' _ _ _ _ _ _ _ _) ?_) rfl
  rintro _ _ ⟨rfl, rfl⟩
  refine Ops.u (Dtu.asg (lk rfl)) rfl ?_
  refine Ops.nil ?_
  refine Then.next ?_
  refine Body.seq ?_
  refine Body.region ?_
  refine Ops.u (Dtu.mv (lk rfl)) rfl ?_
  refine Ops.u (Dtu.neq (lk rfl) (lk rfl)) rfl ?_
  refine Ops.nil ?_
  refine Then.next ?_
  refine Body.condP (lk rfl) (fun _ => ?_) (fun hn => absurd (by first | omega | assumption | decide) hn)
  refine Body.seq ?_
  refine Body.region ?_
  refine Ops.u (Dtu.mv (lk rfl)) rfl ?_
  refine Ops.u (Dtu.asg (lk rfl)) rfl ?_
  refine Ops.nil ?_
  refine Then.next ?_
  refine Body.ret ?_
  refine Then.ret ?_
  exact ⟨.inr rfl, _, pk [0] rfl, rfl, rfl⟩
end Go.Proofs.Ytpmapedhigjalaa
end
section
/- A grid: Resize, where it does something. -/
namespace Go.Proofs.Ytpmapedhigjalaa
set_option maxRecDepth 100000
set_option linter.unusedVariables false
set_option linter.unusedSimpArgs false
open Go.Sx

/-- a row of cells as long as it should be -/
def fitR (cs : List Cell) (k : Nat) (x : Cell) : List Cell := cs.take k ++ List.replicate (k - cs.length) x
/-- all rows -/
def rszR (css : List (List Cell)) (rows k : Nat) (x : Cell) : List (List Cell) := (List.range rows).map fun i => fitR (css.getD i []) k x
structure GRsz where
  i : Nat
  v : Value
  rs : List Row
theorem gresize_ok (E : Env) (b : Nat) (cols : Int) (a : Option Addr) (m c : Nat) (rs : List Row) (hr : Fit cols rs) (t u : Int) (p f g q : Int) (hf : fitsG t u = true) : Does Try.prog 31 #[.pointer (some ⟨b, 0, none⟩), .int .i64 t, .int .i64 u, .agg #[.int .i32 p, .int .u8 f, .int .u32 g, .int .u32 q]] E (gridA b cols a m c rs) fun r H' => ∃ a' c' rs', rs'.map Row.cs = rszR (rs.map Row.cs) t.toNat u.toNat ⟨p, f, g, q⟩ ∧ r = .int .i64 0 ∧ H' = gridA b u a' rs'.length c' rs' := by
  have hb : 1 ≤ t ∧ t ≤ 12 ∧ 1 ≤ u ∧ u ≤ 40 := by simpa [fitsG] using hf
  have hn := hr.n
  have hc := hr.c
  refine Does.pure (Sl.litLen (Sl.osl (t := 62) 1 rfl)) fun hm => ?_
  subst hm
  refine Does.go (args := [.pointer (some ⟨b, 0, none⟩), .int .i64 t, .int .i64 u, .agg #[.int .i32 p, .int .u8 f, .int .u32 g, .int .u32 q]]) _ _ Try.func31 rfl Try.ntmps31 rfl rfl ?_
  refine Body.seq ?_
  refine Body.region ?_
  refine Ops.s (Stp.box (lk rfl) rfl (fun b7 => ?_)) rfl
  refine Ops.u (Dtu.asg (lk rfl)) rfl ?_
  refine Ops.nil ?_
  refine Then.next ?_
  refine Body.seq ?_
  refine Body.block ?_
  refine Body.seq ?_
  refine Body.region ?_
  refine Ops.u (Dtu.mv (lk rfl)) rfl ?_
  refine Ops.s (Stp.callOwn [1] rfl rfl Try.call85 (lks rfl) (fun E' le hat => gmade_ok E' _ _ _ _ _) ?_) rfl
  rintro _ _ ⟨rfl, rfl⟩
  refine Ops.u (Dtu.notP (lk rfl)) rfl ?_
  refine Ops.u (Dtu.asg (lk rfl)) rfl ?_
  refine Ops.nil ?_
  refine Then.next ?_
  refine Body.condP (lk rfl) (fun hy => absurd hy (by first | omega | assumption | decide)) (fun _ => ?_)
  refine Body.seq ?_
  refine Body.region ?_
  refine Ops.u (Dtu.mv (lk rfl)) rfl ?_
  refine Ops.u (Dtu.mv (lk rfl)) rfl ?_
  refine Ops.s (Stp.call rfl Try.call73 (lks rfl) (fun E' le hat => fits_ok E' _ _) ?_) rfl
  rintro _ _ ⟨rfl, rfl⟩
  refine Ops.u (Dtu.not (lk rfl)) rfl ?_
  refine Ops.u (Dtu.asg (lk rfl)) rfl ?_
  refine Ops.nil ?_
  refine Then.next ?_
  refine Body.cond (lk rfl) (fun hn => absurd hn (by first | (rw [hf]; decide) | simp [hf])) (fun _ => ?_)
  refine Body.skip ?_
  refine Blk.norm ?_
  refine Then.next ?_
  refine Body.seq ?_
  refine Body.region ?_
  refine Ops.u (Dtu.asg (lk rfl)) rfl ?_
  refine Ops.nil ?_
  refine Then.next ?_
  refine Body.seq ?_
  refine Body.seq ?_
  refine Body.region ?_
  refine Ops.u (Dtu.mv (lk rfl)) rfl ?_
  refine Ops.u (Dtu.mv (lk rfl)) rfl ?_
  refine Ops.nil ?_
  refine Then.next ?_
  refine Body.block ?_
  refine Body.conseq (fun w s => osl_nil (t := 62) (sz := 1) (a := none) (many_nil s)) ?_
  refine Body.loopH (γ := GRsz) rfl (fun s => [(22, .int .i64 s.i), (9, s.v)]) (fun s => [(0, osl 62 1 s.v s.rs.length (s.rs.map Row.hd)), (1, many (s.rs.map Row.own))]) (fun s => (s.i : Int) ≤ t ∧ s.rs.length = s.i ∧ s.rs.map Row.cs = rszR (rs.map Row.cs) s.i u.toNat ⟨p, f, g, q⟩) (fun s => t.toNat - s.i) (⟨0, .slice none 0 0, []⟩) (⟨by dsimp only; omega, rfl, rfl⟩) ⟨rfl, rfl, trivial⟩ rfl ?_
  rintro ⟨i, lv, ls⟩ u0 ⟨hi, hll, hcs⟩
  dsimp only at hi hll hcs ⊢
  by_cases hlt : (i : Int) < t
  · have rnd : ∀ z : Row, z.cs = fitR ((rs.map Row.cs).getD i []) u.toNat ⟨p, f, g, q⟩ → (ls ++ [z]).length = i + 1 ∧ (ls ++ [z]).map Row.cs = rszR (rs.map Row.cs) (i + 1) u.toNat ⟨p, f, g, q⟩ := fun z hz => by
      refine ⟨by simp [hll], ?_⟩
      rw [List.map_append, hcs, List.map_cons, hz, rszR, rszR, List.range_succ, List.map_append]; rfl
    by_cases hold : i < rs.length
    · have hj : (rs.map Row.own)[i]? = some (osl 39 4 rs[i]!.hd rs[i]!.cs.length (rs[i]!.cs.flatMap Cell.enc)) := by
        rw [List.getElem?_map, List.getElem?_eq_getElem hold, getElem!_pos rs i hold]; rfl
      refine Body.seq ?_
      refine Body.region ?_
      refine Ops.u (Dtu.lss (lk rfl) (lk rfl)) rfl ?_
      refine Ops.nil ?_
      refine Then.next ?_
      refine Body.seq ?_
      refine Body.condP (lk rfl) (fun _ => ?_) (fun hn => absurd (by first | omega | assumption | decide) hn)
      refine Body.skip ?_
      refine Then.next ?_
      refine Body.seq ?_
      refine Body.block ?_
      refine Body.seq ?_
      refine Body.region ?_
      refine Ops.u (Dtu.mv (lk rfl)) rfl ?_
      refine Ops.u (Dtu.asg (lk rfl)) rfl ?_
      refine Ops.nil ?_
      refine Then.next ?_
      refine Body.seq ?_
      refine Body.region ?_
      refine Ops.u (Dtu.mv (lk rfl)) rfl ?_
      refine Ops.d (Det.lda Try.isAgg39 Try.sizeOf39 (lk rfl) (Rds.ow (m := 4) 3 rfl rfl) rfl) rfl ?_
      refine Ops.s (Stp.call rfl Try.call74 (lks rfl) (fun E' le hat => line_row E' _ _ _ _ _ (by omega) (by omega)) ?_) rfl
      rintro _ _ ⟨z27, hz27, rfl, rfl⟩
      refine Ops.u (Dtu.asg (lk rfl)) rfl ?_
      refine Ops.nil ?_
      refine Then.next ?_
      refine Body.seq ?_
      refine Body.seq ?_
      refine Body.region ?_
      refine Ops.u (Dtu.mv (lk rfl)) rfl ?_
      refine Ops.u (Dtu.mv (lk rfl)) rfl ?_
      refine Ops.u (Dtu.nilck (lk rfl)) rfl ?_
      refine Ops.u (Dtu.fld fa61_1 (lk rfl)) rfl ?_
      refine Ops.d (Det.ld Try.isAgg59 (lk rfl) (Rd.ow 3 rfl rfl)) rfl ?_
      refine Ops.u (Dtu.lenS Try.underlying59 (Sl.osl 5 rfl) (lk rfl)) rfl ?_
      refine Ops.u (Dtu.lss (lk rfl) (lk rfl)) rfl ?_
      refine Ops.nil ?_
      refine Then.next ?_
      refine Body.condP (lk rfl) (fun _ => ?_) (fun hn => absurd (by first | omega | assumption | decide) hn)
      refine Body.region ?_
      refine Ops.u (Dtu.mv (lk rfl)) rfl ?_
      refine Ops.u (Dtu.mv (lk rfl)) rfl ?_
      refine Ops.u (Dtu.nilck (lk rfl)) rfl ?_
      refine Ops.u (Dtu.fld fa61_1 (lk rfl)) rfl ?_
      refine Ops.d (Det.ld Try.isAgg59 (lk rfl) (Rd.ow 3 rfl rfl)) rfl ?_
      refine Ops.u (Dtu.mv (lk rfl)) rfl ?_
      refine Ops.u (Dtu.ix (i := (i)) Try.underlying59 Try.sizeOf62 (Sl.osl 5 rfl) (lk rfl) (lk rfl) (by omega) (by omega)) rfl ?_
      refine Ops.d (Det.ld Try.isAgg62 (lk rfl) (Rd.sl (Sl.osl 5 rfl) (gm (by omega)))) rfl ?_
      refine Ops.s (Stp.copyF 0 (enc := Cell.enc) (sz := 4) (fun _ => rfl) Try.underlying62 Try.sizeOf39 rfl (lk rfl) (LiesIn.whole (Sl.osl (t := 39) 0 rfl)) (by omega) (lk rfl) (Sl.many 6 i rfl hj) (fun _ => rfl) rfl ?_) rfl
      refine Ops.nil ?_
      refine Then.next ?_
      refine Body.region ?_
      refine Ops.u (Dtu.mv (lk rfl)) rfl ?_
      refine Ops.u (Dtu.mv (lk rfl)) rfl ?_
      refine Ops.s (Stp.buildSliceO Try.underlying59 ty62 (by decide) (by decide) (lkp rfl) rfl rfl rfl (by decide) (fun v46 => ?_)) rfl
      refine Ops.s (Stp.append 2 Try.underlying59 ty62 rfl rfl (lk rfl) (lk rfl) (Sl.osl 0 rfl) (by first | rfl | exact all_map (fun _ => rfl) _ | exact all_flat (fun _ => rfl) _) (by omega) (by omega) (fun v47 => ?_)) rfl
      refine Ops.u (Dtu.asg (lk rfl)) rfl ?_
      refine Ops.nil ?_
      refine Blk.norm ?_
      refine Then.next ?_
      refine Body.region ?_
      refine Ops.u (Dtu.add (lk rfl) (lk rfl) (w64 (by omega) (by omega))) rfl ?_
      refine Ops.u (Dtu.mv (lk rfl)) rfl ?_
      refine Ops.nil ?_
      have hz : (z27.cs.take 0 ++ rs[i]!.cs.take (rs[i]!.cs.length.min z27.cs.length) ++ z27.cs.drop (0 + rs[i]!.cs.length.min z27.cs.length)) = fitR ((rs.map Row.cs).getD i []) u.toNat ⟨p, f, g, q⟩ := by
        have e : (rs.map Row.cs).getD i [] = rs[i]!.cs := by rw [List.getD_eq_getElem?_getD, List.getElem?_map, List.getElem?_eq_getElem hold, getElem!_pos rs i hold]; rfl
        have el : z27.cs.length = u.toNat := by rw [hz27]; simp
        rw [e, el, natMin]
        unfold fitR
        simp only [List.take_zero, List.nil_append, Nat.zero_add, hz27, List.drop_replicate]
        rcases Nat.le_total rs[i]!.cs.length u.toNat with h | h
        · rw [Nat.min_eq_left h, List.take_of_length_le (Nat.le_refl _), List.take_of_length_le h]
        · rw [Nat.min_eq_right h]; rw [show u.toNat - u.toNat = 0 by omega, show u.toNat - rs[i]!.cs.length = 0 by omega]
      have hlz : (z27.cs.take 0 ++ rs[i]!.cs.take (rs[i]!.cs.length.min z27.cs.length) ++ z27.cs.drop (0 + rs[i]!.cs.length.min z27.cs.length)).length = z27.cs.length := by
        rw [hz27, natMin]; simp only [List.length_append, List.length_take, List.length_drop, List.length_replicate]; omega
      generalize z27.cs.take 0 ++ rs[i]!.cs.take (rs[i]!.cs.length.min z27.cs.length) ++ z27.cs.drop (0 + rs[i]!.cs.length.min z27.cs.length) = C at *
      obtain ⟨h1, h2⟩ := rnd ⟨z27.a, z27.m, z27.c, C⟩ hz
      refine Round.goW ⟨i + 1, v47, ls ++ [⟨z27.a, z27.m, z27.c, C⟩]⟩ rfl rfl rfl ⟨rfl, rfl, trivial⟩ (fun w s => ?_) ⟨by dsimp only; omega, h1, h2⟩ (by dsimp only; omega)
      rw [← hlz] at s
      have s2 := many_map_snoc (r := ⟨z27.a, z27.m, z27.c, C⟩) (pk [1, 2, 0, 0, 0, 0, 0, 0] rfl w s)
      simp only [List.map_append, List.map_cons, List.map_nil, List.length_append, List.length_cons, List.length_nil] at s2 ⊢
      exact pk [2, 0, 1, 1, 1, 1] rfl w s2
    · refine Body.seq ?_
      refine Body.region ?_
      refine Ops.u (Dtu.lss (lk rfl) (lk rfl)) rfl ?_
      refine Ops.nil ?_
      refine Then.next ?_
      refine Body.seq ?_
      refine Body.condP (lk rfl) (fun _ => ?_) (fun hn => absurd (by first | omega | assumption | decide) hn)
      refine Body.skip ?_
      refine Then.next ?_
      refine Body.seq ?_
      refine Body.block ?_
      refine Body.seq ?_
      refine Body.region ?_
      refine Ops.u (Dtu.mv (lk rfl)) rfl ?_
      refine Ops.u (Dtu.asg (lk rfl)) rfl ?_
      refine Ops.nil ?_
      refine Then.next ?_
      refine Body.seq ?_
      refine Body.region ?_
      refine Ops.u (Dtu.mv (lk rfl)) rfl ?_
      refine Ops.d (Det.lda Try.isAgg39 Try.sizeOf39 (lk rfl) (Rds.ow (m := 4) 3 rfl rfl) rfl) rfl ?_
      refine Ops.s (Stp.call rfl Try.call74 (lks rfl) (fun E' le hat => line_row E' _ _ _ _ _ (by omega) (by omega)) ?_) rfl
      rintro _ _ ⟨z27, hz27, rfl, rfl⟩
      refine Ops.u (Dtu.asg (lk rfl)) rfl ?_
      refine Ops.nil ?_
      refine Then.next ?_
      refine Body.seq ?_
      refine Body.seq ?_
      refine Body.region ?_
      refine Ops.u (Dtu.mv (lk rfl)) rfl ?_
      refine Ops.u (Dtu.mv (lk rfl)) rfl ?_
      refine Ops.u (Dtu.nilck (lk rfl)) rfl ?_
      refine Ops.u (Dtu.fld fa61_1 (lk rfl)) rfl ?_
      refine Ops.d (Det.ld Try.isAgg59 (lk rfl) (Rd.ow 3 rfl rfl)) rfl ?_
      refine Ops.u (Dtu.lenS Try.underlying59 (Sl.osl 5 rfl) (lk rfl)) rfl ?_
      refine Ops.u (Dtu.lss (lk rfl) (lk rfl)) rfl ?_
      refine Ops.nil ?_
      refine Then.next ?_
      refine Body.condP (lk rfl) (fun hy => absurd hy (by first | omega | assumption | decide)) (fun _ => ?_)
      refine Body.skip ?_
      refine Then.next ?_
      refine Body.region ?_
      refine Ops.u (Dtu.mv (lk rfl)) rfl ?_
      refine Ops.u (Dtu.mv (lk rfl)) rfl ?_
      refine Ops.s (Stp.buildSliceO Try.underlying59 ty62 (by decide) (by decide) (lkp rfl) rfl rfl rfl (by decide) (fun v46 => ?_)) rfl
      refine Ops.s (Stp.append 2 Try.underlying59 ty62 rfl rfl (lk rfl) (lk rfl) (Sl.osl 0 rfl) (by first | rfl | exact all_map (fun _ => rfl) _ | exact all_flat (fun _ => rfl) _) (by omega) (by omega) (fun v47 => ?_)) rfl
      refine Ops.u (Dtu.asg (lk rfl)) rfl ?_
      refine Ops.nil ?_
      refine Blk.norm ?_
      refine Then.next ?_
      refine Body.region ?_
      refine Ops.u (Dtu.add (lk rfl) (lk rfl) (w64 (by omega) (by omega))) rfl ?_
      refine Ops.u (Dtu.mv (lk rfl)) rfl ?_
      refine Ops.nil ?_
      obtain ⟨h1, h2⟩ := rnd z27 (by
        have e : (rs.map Row.cs).getD i [] = [] := by rw [List.getD_eq_getElem?_getD, List.getElem?_map, List.getElem?_eq_none (by omega)]; rfl
        rw [e, hz27]; simp [fitR])
      refine Round.goW ⟨i + 1, v47, ls ++ [z27]⟩ rfl rfl rfl ⟨rfl, rfl, trivial⟩ (fun w s => ?_) ⟨by dsimp only; omega, h1, h2⟩ (by dsimp only; omega)
      have s2 := many_map_snoc (r := z27) (pk [1, 2, 0, 0, 0, 0, 0, 0] rfl w s)
      simp only [List.map_append, List.map_cons, List.map_nil, List.length_append, List.length_cons, List.length_nil] at s2 ⊢
      exact pk [2, 0, 1, 1, 1, 1] rfl w s2
  · refine Body.seq ?_
    refine Body.region ?_
    refine Ops.u (Dtu.lss (lk rfl) (lk rfl)) rfl ?_
    refine Ops.nil ?_
    refine Then.next ?_
    refine Body.seq ?_
    refine Body.condP (lk rfl) (fun hy => absurd hy (by first | omega | assumption | decide)) (fun _ => ?_)
    refine Body.exit ?_
    refine Then.exit ?_
    refine Round.exit ?_
    refine Blk.here ?_
    refine Then.next ?_
    refine Body.seq ?_
    refine Body.region ?_
    refine Ops.u (Dtu.mv (lk rfl)) rfl ?_
    refine Ops.u (Dtu.mv (lk rfl)) rfl ?_
    refine Ops.u (Dtu.mv (lk rfl)) rfl ?_
    refine Ops.u (Dtu.mv (lk rfl)) rfl ?_
    refine Ops.u (Dtu.nilck (lk rfl)) rfl ?_
    refine Ops.u (Dtu.fld fa61_0 (lk rfl)) rfl ?_
    refine Ops.e (Stp.store 2 Try.sizeOf3 (lk rfl) (lk rfl) rfl rfl rfl rfl rfl rfl rfl ?_)
    refine Ops.u (Dtu.nilck (lk rfl)) rfl ?_
    refine Ops.u (Dtu.fld fa61_1 (lk rfl)) rfl ?_
    refine Ops.pure (Sl.shape (Sl.osl 0 rfl)) fun hsllv => ?_
    obtain ⟨lva, lvc, rfl⟩ := hsllv
    refine Ops.e (Stp.store 2 Try.sizeOf59 (lk rfl) (lk rfl) rfl rfl rfl rfl rfl rfl rfl ?_)
    refine Ops.nil ?_
    refine Then.next ?_
    refine Body.seq ?_
    refine Body.region ?_
    refine Ops.u (Dtu.asg (lk rfl)) rfl ?_
    refine Ops.nil ?_
    refine Then.next ?_
    refine Body.ret ?_
    have hit : i = t.toNat := by omega
    exact ⟨.inr rfl, _, pk [2, 0, 0] rfl, lva, lvc, ls, by rw [hcs, hit], rfl, rfl⟩
end Go.Proofs.Ytpmapedhigjalaa
end
section
/- A grid: Copy. -/
namespace Go.Proofs.Ytpmapedhigjalaa
set_option maxRecDepth 100000
set_option linter.unusedVariables false
set_option linter.unusedSimpArgs false
open Go.Sx

structure GCp where
  i : Nat
  a : Option Addr
  c : Nat
  rs : List Row
theorem gcopy_ok (E : Env) (b : Nat) (cols : Int) (a : Option Addr) (m c : Nat) (rs : List Row) (hr : Fit cols rs) : Does Try.prog 34 #[.pointer (some ⟨b, 0, none⟩)] E (gridA b cols a m c rs) fun r H' => ∃ b2 a2 c2 rs2, rs2.map Row.cs = rs.map Row.cs ∧ r = .pointer (some ⟨b2, 0, none⟩) ∧ H' = gridA b cols a m c rs ++ gridA b2 cols a2 rs2.length c2 rs2 := by
  have hn := hr.n
  refine Does.pure (Sl.litLen (Sl.osl (t := 62) 1 rfl)) fun hm => ?_
  subst hm
  refine Does.go _ _ Try.func34 rfl Try.ntmps34 rfl rfl ?_
  refine Body.seq ?_
  refine Body.region ?_
  refine Ops.u (Dtu.asg (lk rfl)) rfl ?_
  refine Ops.nil ?_
  refine Then.next ?_
  refine Body.seq ?_
  refine Body.seq ?_
  refine Body.region ?_
  refine Ops.u (Dtu.mv (lk rfl)) rfl ?_
  refine Ops.s (Stp.callOwn [0] rfl rfl Try.call85 (lks rfl) (fun E' le hat => gmade_ok E' _ _ _ _ _) ?_) rfl
  rintro _ _ ⟨rfl, rfl⟩
  refine Ops.u (Dtu.notP (lk rfl)) rfl ?_
  refine Ops.nil ?_
  refine Then.next ?_
  refine Body.condP (lk rfl) (fun hy => absurd hy (by first | omega | assumption | decide)) (fun _ => ?_)
  refine Body.skip ?_
  refine Then.next ?_
  refine Body.seq ?_
  refine Body.region ?_
  refine Ops.u (Dtu.mv (lk rfl)) rfl ?_
  refine Ops.u (Dtu.nilck (lk rfl)) rfl ?_
  refine Ops.u (Dtu.fld fa61_0 (lk rfl)) rfl ?_
  refine Ops.d (Det.ld Try.isAgg3 (lk rfl) (Rd.ow 0 rfl rfl)) rfl ?_
  refine Ops.u (Dtu.build ty61 pl61 (lkp rfl) rfl rfl) rfl ?_
  refine Ops.s (Stp.box (lk rfl) rfl (fun b14 => ?_)) rfl
  refine Ops.u (Dtu.asg (lk rfl)) rfl ?_
  refine Ops.nil ?_
  refine Then.next ?_
  refine Body.seq ?_
  refine Body.seq ?_
  refine Body.region ?_
  refine Ops.u (Dtu.mv (lk rfl)) rfl ?_
  refine Ops.u (Dtu.nilck (lk rfl)) rfl ?_
  refine Ops.u (Dtu.fld fa61_1 (lk rfl)) rfl ?_
  refine Ops.d (Det.ld Try.isAgg59 (lk rfl) (Rd.ow 1 rfl rfl)) rfl ?_
  refine Ops.u (Dtu.lenS Try.underlying59 (Sl.osl 2 rfl) (lk rfl)) rfl ?_
  refine Ops.u (Dtu.mv (lk rfl)) rfl ?_
  refine Ops.nil ?_
  refine Then.next ?_
  refine Body.block ?_
  refine Body.conseq (fun w s => osl_nil (t := 62) (sz := 1) (a := none) (many_nil s)) ?_
  refine Body.loopH (γ := GCp) rfl (fun s => [(20, .int .i64 s.i)]) (fun s => [(0, osl 62 1 (.slice s.a s.i s.c) s.i (s.rs.map Row.hd)), (1, many (s.rs.map Row.own)), (2, own b14 [.int .i64 cols, .slice s.a s.i s.c] 61)]) (fun s => s.i ≤ rs.length ∧ s.rs.length = s.i ∧ s.rs.map Row.cs = (rs.take s.i).map Row.cs) (fun s => rs.length - s.i) (⟨0, none, 0, []⟩) (⟨by dsimp only; omega, rfl, rfl⟩) ⟨rfl, trivial⟩ rfl ?_
  rintro ⟨i, la, lc, ls⟩ u0 ⟨hi, hll, hcs⟩
  dsimp only at hi hll hcs ⊢
  subst hll
  by_cases hlt : ls.length < rs.length
  · have hj : (rs.map Row.own)[ls.length]? = some (osl 39 4 rs[ls.length]!.hd rs[ls.length]!.cs.length (rs[ls.length]!.cs.flatMap Cell.enc)) := by
      rw [List.getElem?_map, List.getElem?_eq_getElem hlt, getElem!_pos rs ls.length hlt]; rfl
    have hl := hr.at hlt
    have hc := hr.c
    have hhd : (rs.map Row.hd)[ls.length]? = some rs[ls.length]!.hd := by rw [List.getElem?_map, List.getElem?_eq_getElem hlt, getElem!_pos rs ls.length hlt]; rfl
    refine Body.seq ?_
    refine Body.region ?_
    refine Ops.u (Dtu.lss (lk rfl) (lk rfl)) rfl ?_
    refine Ops.nil ?_
    refine Then.next ?_
    refine Body.seq ?_
    refine Body.condP (lk rfl) (fun _ => ?_) (fun hn => absurd (by first | omega | assumption | decide) hn)
    refine Body.skip ?_
    refine Then.next ?_
    refine Body.seq ?_
    refine Body.block ?_
    refine Body.seq ?_
    refine Body.region ?_
    refine Ops.u (Dtu.ix (i := (ls.length)) Try.underlying59 Try.sizeOf62 (Sl.osl 4 rfl) (lk rfl) (lk rfl) (by omega) (by omega)) rfl ?_
    refine Ops.d (Det.ld Try.isAgg62 (lk rfl) (Rd.sl (Sl.osl 4 rfl) (gm (by omega)))) rfl ?_
    refine Ops.u (Dtu.asg (lk rfl)) rfl ?_
    refine Ops.nil ?_
    refine Then.next ?_
    refine Body.draw mixed ?_
    refine AB.u 0 rfl (by decide +kernel) (Dtu.mv (lk rfl)) rfl ?_
    refine AB.u 1 rfl (by decide +kernel) (Dtu.mv (lk rfl)) rfl ?_
    refine AB.u 2 rfl (by decide +kernel) (Dtu.nilck (lk rfl)) rfl ?_
    refine AB.u 3 rfl (by decide +kernel) (Dtu.fld fa61_1 (lk rfl)) rfl ?_
    refine AB.d 4 rfl (by decide +kernel) rfl (Det.ld Try.isAgg59 (lk rfl) (Rd.ow 2 rfl rfl)) rfl ?_
    refine AB.u 5 rfl (by decide +kernel) (Dtu.mv (lk rfl)) rfl ?_
    refine AB.s 6 rfl (by decide +kernel) (by decide +kernel) (Stp.call rfl Try.call84 (lks rfl) (fun E' le hat => cloneC_ok E' _ rs[ls.length]!.cs.length (rs[ls.length]!.cs.flatMap Cell.enc) (Sl.atMany ls.length (hat _ (.tail _ (.tail _ (.tail _ (.tail _ (.tail _ (.head _))))))) hj) (all_flat (fun _ => rfl) _) (by omega)) ?_) rfl
    rintro _ _ ⟨rfl, ⟨z1, z2, z3, rfl⟩⟩
    refine AB.s 7 rfl (by decide +kernel) (by decide +kernel) (Stp.buildSliceO Try.underlying59 ty62 (by decide) (by decide) (lkp rfl) rfl rfl rfl (by decide) (fun v31 => ?_)) rfl
    refine AB.s 8 rfl (by decide +kernel) (by decide +kernel) (Stp.append 2 Try.underlying59 ty62 rfl rfl (lk rfl) (lk rfl) (Sl.osl 0 rfl) (by first | rfl | exact all_map (fun _ => rfl) _ | exact all_flat (fun _ => rfl) _) (by omega) (by omega) (fun v32 => ?_)) rfl
    refine AB.u 9 rfl (by decide +kernel) (Dtu.nilck (lk rfl)) rfl ?_
    refine AB.u 10 rfl (by decide +kernel) (Dtu.fld fa61_1 (lk rfl)) rfl ?_
    refine AB.pure (Sl.shape (Sl.osl 2 rfl)) fun hslv32 => ?_
    obtain ⟨v32a, v32c, rfl⟩ := hslv32
    refine AB.e 11 rfl (by decide +kernel) (by decide +kernel) (Stp.store 4 Try.sizeOf59 (lk rfl) (lk rfl) rfl rfl rfl rfl rfl rfl rfl ?_)
    refine AB.done (by decide +kernel) ?_
    refine Blk.norm ?_
    refine Then.next ?_
    refine Body.region ?_
    refine Ops.u (Dtu.add (lk rfl) (lk rfl) (w64 (by omega) (by omega))) rfl ?_
    refine Ops.u (Dtu.mv (lk rfl)) rfl ?_
    refine Ops.nil ?_
    refine Round.goW ⟨ls.length + 1, v32a, v32c, ls ++ [⟨z1, z2, z3, rs[ls.length]!.cs⟩]⟩ rfl rfl rfl ⟨rfl, trivial⟩ (fun w s => ?_) ⟨by dsimp only; omega, by simp, ?_⟩ (by dsimp only; omega)
    · have s2 := many_map_snoc (r := ⟨z1, z2, z3, rs[ls.length]!.cs⟩) (pk [1, 2, 0, 0, 0, 0, 0, 0] rfl w s)
      simp only [List.map_append, List.map_cons, List.map_nil] at s2 ⊢
      exact pk [2, 0, 1, 1, 1, 1] rfl w s2
    · dsimp only
      rw [List.map_append, hcs, List.take_succ_eq_append_getElem hlt, List.map_append, List.map_cons, List.map_cons, getElem!_pos rs ls.length hlt]
  · refine Body.seq ?_
    refine Body.region ?_
    refine Ops.u (Dtu.lss (lk rfl) (lk rfl)) rfl ?_
    refine Ops.nil ?_
    refine Then.next ?_
    refine Body.seq ?_
    refine Body.condP (lk rfl) (fun hy => absurd hy (by first | omega | assumption | decide)) (fun _ => ?_)
    refine Body.exit ?_
    refine Then.exit ?_
    refine Round.exit ?_
    refine Blk.here ?_
    refine Then.next ?_
    refine Body.seq ?_
    refine Body.region ?_
    refine Ops.u (Dtu.mv (lk rfl)) rfl ?_
    refine Ops.u (Dtu.asg (lk rfl)) rfl ?_
    refine Ops.nil ?_
    refine Then.next ?_
    refine Body.ret ?_
    exact ⟨.inr rfl, _, pk [3, 3, 3, 2, 0, 0] rfl, b14, la, lc, ls, by rw [hcs, List.take_of_length_le (by omega)], rfl, rfl⟩
end Go.Proofs.Ytpmapedhigjalaa
end
section
/- A grid: Same. -/
namespace Go.Proofs.Ytpmapedhigjalaa
set_option maxRecDepth 100000
set_option linter.unusedVariables false
set_option linter.unusedSimpArgs false
open Go.Sx

theorem eq39 (a b : Cell) : EqAgg Try.prog 39 a.enc b.enc (decide (a = b)) := by
  have h : EqAgg Try.prog 39 a.enc b.enc ((a.pt == b.pt) && (((a.fl == b.fl) && ((a.fg == b.fg) && ((a.bg == b.bg) && true))) && true)) :=
    EqAgg.mk fun k => EqD.struct Try.underlying39 (by kernel_rfl) (FE.cons rfl (part_v Try.isAgg21 rfl) (part_v Try.isAgg21 rfl) (EqD.int Try.underlying21)
      (FE.cons rfl (part_a Try.isAgg37 Try.sizeOf37 rfl) (part_a Try.isAgg37 Try.sizeOf37 rfl)
        (EqD.struct Try.underlying37 (by kernel_rfl) (FE.cons rfl (part_v Try.isAgg5 rfl) (part_v Try.isAgg5 rfl) (EqD.int Try.underlying5)
          (FE.cons rfl (part_v Try.isAgg35 rfl) (part_v Try.isAgg35 rfl) (EqD.int Try.underlying35) (FE.cons rfl (part_v Try.isAgg35 rfl) (part_v Try.isAgg35 rfl) (EqD.int Try.underlying35) FE.nil)))) FE.nil))
  have e : ((a.pt == b.pt) && (((a.fl == b.fl) && ((a.fg == b.fg) && ((a.bg == b.bg) && true))) && true)) = decide (a = b) := by
    cases a; cases b
    rw [Bool.eq_iff_iff]
    simp
  rwa [e] at h
theorem eqGuard39 : Try.prog.eqGuardType Try.prog.depth 39 = false := by kernel_rfl
theorem equalC_ok (E : Env) (s t : Value) (xs ys : List Cell) (hx : Sl E [] 4 s xs.length (xs.flatMap Cell.enc)) (hy : Sl E [] 4 t ys.length (ys.flatMap Cell.enc)) :
    Does Try.prog 87 #[s, t] E [] fun r H' => r = .bool (decide (xs = ys)) ∧ H' = [] := by
  refine Does.pure hx.len fun hlen => ?_
  refine Does.pure hy.len fun hlen2 => ?_
  refine Does.go (args := [s, t]) _ _ Try.func87 rfl Try.ntmps87 rfl rfl ?_
  refine Body.seq ?_
  refine Body.region ?_
  refine Ops.u (Dtu.asg (lk rfl)) rfl ?_
  refine Ops.nil ?_
  refine Then.next ?_
  refine Body.seq ?_
  refine Body.seq ?_
  refine Body.region ?_
  refine Ops.u (Dtu.mv (lk rfl)) rfl ?_
  refine Ops.u (Dtu.lenS Try.underlying62 (Sl.up hx) (lk rfl)) rfl ?_
  refine Ops.u (Dtu.mv (lk rfl)) rfl ?_
  refine Ops.u (Dtu.lenS Try.underlying62 (Sl.up hy) (lk rfl)) rfl ?_
  refine Ops.u (Dtu.neq (lk rfl) (lk rfl)) rfl ?_
  refine Ops.nil ?_
  refine Then.next ?_
  refine Body.condP (lk rfl) (fun c10 => ?_) (fun c10 => ?_)
  · refine Body.seq ?_
    refine Body.region ?_
    refine Ops.u (Dtu.asg (lk rfl)) rfl ?_
    refine Ops.nil ?_
    refine Then.next ?_
    refine Body.ret ?_
    refine Then.ret ?_
    refine ⟨.inr rfl, _, pk [] rfl, bool_eq ?_, rfl⟩
    have : xs ≠ ys := fun e => c10 (by rw [e])
    simp [this]
  · refine Body.skip ?_
    refine Then.next ?_
    refine Body.seq ?_
    refine Body.seq ?_
    refine Body.region ?_
    refine Ops.u (Dtu.mv (lk rfl)) rfl ?_
    refine Ops.u (Dtu.lenS Try.underlying62 (Sl.up hx) (lk rfl)) rfl ?_
    refine Ops.u (Dtu.mv (lk rfl)) rfl ?_
    refine Ops.nil ?_
    refine Then.next ?_
    refine Body.block ?_
    have hl : xs.length = ys.length := by omega
    refine Body.loopF (γ := Nat) rfl (fun k => [(13, .int .i64 k)]) (fun _ => []) (fun k => k ≤ xs.length ∧ ∀ j, j < k → xs[j]! = ys[j]!) (fun k => xs.length - k) 0 ⟨by omega, fun j hj => by omega⟩ ⟨rfl, trivial⟩ rfl ?_
    rintro k u ⟨hk, hb⟩
    refine Body.seq ?_
    refine Body.region ?_
    refine Ops.u (Dtu.lss (lk rfl) (lk rfl)) rfl ?_
    refine Ops.nil ?_
    refine Then.next ?_
    refine Body.seq ?_
    refine Body.condP (lk rfl) (fun c14 => ?_) (fun c14 => ?_)
    · refine Body.skip ?_
      refine Then.next ?_
      refine Body.seq ?_
      refine Body.block ?_
      refine Body.seq ?_
      refine Body.region ?_
      refine Ops.u (Dtu.mv (lk rfl)) rfl ?_
      refine Ops.u (Dtu.asg (lk rfl)) rfl ?_
      refine Ops.nil ?_
      refine Then.next ?_
      refine Body.seq ?_
      refine Body.draw mixed ?_
      refine AB.u 0 rfl (by decide +kernel) (Dtu.mv (lk rfl)) rfl ?_
      refine AB.u 1 rfl (by decide +kernel) (Dtu.mv (lk rfl)) rfl ?_
      refine AB.u 2 rfl (by decide +kernel) (Dtu.ix (i := (k)) Try.underlying62 Try.sizeOf39 (Sl.up hx) (lk rfl) (lk rfl) (by omega) (by omega)) rfl ?_
      refine AB.d 3 rfl (by decide +kernel) rfl (Det.lda Try.isAgg39 Try.sizeOf39 (lk rfl) (Rds.sl (Sl.up hx) (gf (sz := 4) (fun _ => rfl) (by omega))) rfl) rfl ?_
      refine AB.u 4 rfl (by decide +kernel) (Dtu.mv (lk rfl)) rfl ?_
      refine AB.u 5 rfl (by decide +kernel) (Dtu.mv (lk rfl)) rfl ?_
      refine AB.u 6 rfl (by decide +kernel) (Dtu.ix (i := (k)) Try.underlying62 Try.sizeOf39 (Sl.up hy) (lk rfl) (lk rfl) (by omega) (by omega)) rfl ?_
      refine AB.d 7 rfl (by decide +kernel) rfl (Det.lda Try.isAgg39 Try.sizeOf39 (lk rfl) (Rds.sl (Sl.up hy) (gf (sz := 4) (fun _ => rfl) (by omega))) rfl) rfl ?_
      refine AB.u 8 rfl (by decide +kernel) (Dtu.neS eqGuard39 (eq39 _ _) (lk rfl) (lk rfl)) rfl ?_
      refine AB.done (by decide +kernel) ?_
      refine Then.next ?_
      refine Body.cond (lk rfl) (fun c24 => ?_) (fun c24 => ?_)
      · refine Body.seq ?_
        refine Body.region ?_
        refine Ops.u (Dtu.asg (lk rfl)) rfl ?_
        refine Ops.nil ?_
        refine Then.next ?_
        refine Body.ret ?_
        refine Blk.ret ?_
        refine Then.ret ?_
        refine Round.ret ?_
        refine Blk.ret ?_
        refine Then.ret ?_
        refine ⟨.inr rfl, _, pk [] rfl, bool_eq ?_, rfl⟩
        have : xs ≠ ys := fun e => by simp [e] at c24
        simp [this]
      · refine Body.skip ?_
        refine Blk.norm ?_
        refine Then.next ?_
        refine Body.region ?_
        refine Ops.u (Dtu.add (lk rfl) (lk rfl) (w64 (by omega) (by omega))) rfl ?_
        refine Ops.u (Dtu.mv (lk rfl)) rfl ?_
        refine Ops.nil ?_
        refine Round.goF (k + 1) rfl rfl rfl ⟨int_eq (by omega), trivial⟩ rfl ⟨by omega, fun j hj => ?_⟩ (by omega)
        by_cases e : j = k
        · subst e; simpa using c24
        · exact hb j (by omega)
    · refine Body.exit ?_
      refine Then.exit ?_
      refine Round.exit ?_
      refine Blk.here ?_
      refine Then.next ?_
      refine Body.seq ?_
      refine Body.region ?_
      refine Ops.u (Dtu.asg (lk rfl)) rfl ?_
      refine Ops.nil ?_
      refine Then.next ?_
      refine Body.ret ?_
      refine ⟨.inr rfl, _, pk [] rfl, bool_eq ?_, rfl⟩
      have : xs = ys := List.ext_getElem hl fun j h1 h2 => by
        have := hb j (by omega)
        rwa [getElem!_pos xs j h1, getElem!_pos ys j h2] at this
      simp [this]
theorem sl_row {E : Env} {rs : List Row} (hA : At (many (rs.map Row.own)) E) (i : Nat) (hi : i < rs.length) : Sl E [] 4 rs[i]!.hd rs[i]!.cs.length (rs[i]!.cs.flatMap Cell.enc) :=
  Sl.atMany (t := 39) i hA (by rw [List.getElem?_map, List.getElem?_eq_getElem hi, getElem!_pos rs i hi]; rfl)
theorem eqf_ok (E : Env) (s t : Value) (rs ss : List Row) (hs : Sl E [] 1 s rs.length (rs.map Row.hd)) (ht : Sl E [] 1 t ss.length (ss.map Row.hd)) (hA : At (many (rs.map Row.own)) E) (hB : At (many (ss.map Row.own)) E) : Does Try.prog 86 #[s, t, .func (.func 87) #[] #[]] E ([]) fun r H' => r = .bool (decide (rs.map Row.cs = ss.map Row.cs)) ∧ H' = [] := by
  refine Does.pure hs.len fun hlen => ?_
  refine Does.pure ht.len fun hlen2 => ?_
  refine Does.go _ _ Try.func86 rfl Try.ntmps86 rfl rfl ?_
  have hne : rs.length ≠ ss.length → rs.map Row.cs ≠ ss.map Row.cs := fun h e => h (by have := congrArg List.length e; simpa using this)
  refine Body.seq ?_
  refine Body.region ?_
  refine Ops.u (Dtu.asg (lk rfl)) rfl ?_
  refine Ops.nil ?_
  refine Then.next ?_
  refine Body.seq ?_
  refine Body.seq ?_
  refine Body.region ?_
  refine Ops.u (Dtu.mv (lk rfl)) rfl ?_
  refine Ops.u (Dtu.lenS Try.underlying59 (Sl.up hs) (lk rfl)) rfl ?_
  refine Ops.u (Dtu.mv (lk rfl)) rfl ?_
  refine Ops.u (Dtu.lenS Try.underlying59 (Sl.up ht) (lk rfl)) rfl ?_
  refine Ops.u (Dtu.neq (lk rfl) (lk rfl)) rfl ?_
  refine Ops.nil ?_
  refine Then.next ?_
  refine Body.condP (lk rfl) (fun c14 => ?_) (fun c14 => ?_)
  · refine Body.seq ?_
    refine Body.region ?_
    refine Ops.u (Dtu.asg (lk rfl)) rfl ?_
    refine Ops.nil ?_
    refine Then.next ?_
    refine Body.ret ?_
    refine Then.ret ?_
    have := hne (by omega)
    exact ⟨.inr rfl, _, pk [] rfl, bool_eq (by simp [this]), rfl⟩
  · refine Body.skip ?_
    refine Then.next ?_
    refine Body.seq ?_
    refine Body.seq ?_
    refine Body.region ?_
    refine Ops.u (Dtu.mv (lk rfl)) rfl ?_
    refine Ops.u (Dtu.lenS Try.underlying59 (Sl.up hs) (lk rfl)) rfl ?_
    refine Ops.u (Dtu.mv (lk rfl)) rfl ?_
    refine Ops.nil ?_
    refine Then.next ?_
    refine Body.block ?_
    have hl : rs.length = ss.length := by omega
    refine Body.loopH (γ := Nat) rfl (fun k => [(17, .int .i64 k)]) (fun k => []) (fun k => k ≤ rs.length ∧ ∀ j, j < k → rs[j]!.cs = ss[j]!.cs) (fun k => rs.length - k) (0) (⟨by omega, fun j hj => by omega⟩) ⟨rfl, trivial⟩ rfl ?_
    rintro k u ⟨hk, hb⟩
    refine Body.seq ?_
    refine Body.region ?_
    refine Ops.u (Dtu.lss (lk rfl) (lk rfl)) rfl ?_
    refine Ops.nil ?_
    refine Then.next ?_
    refine Body.seq ?_
    refine Body.condP (lk rfl) (fun c18 => ?_) (fun c18 => ?_)
    · have hx := sl_row hA k (by omega)
      have hy := sl_row hB k (by omega)
      refine Body.skip ?_
      refine Then.next ?_
      refine Body.seq ?_
      refine Body.block ?_
      refine Body.seq ?_
      refine Body.region ?_
      refine Ops.u (Dtu.mv (lk rfl)) rfl ?_
      refine Ops.u (Dtu.ix (i := (k)) Try.underlying59 Try.sizeOf62 (Sl.up hs) (lk rfl) (lk rfl) (by omega) (by omega)) rfl ?_
      refine Ops.d (Det.ld Try.isAgg62 (lk rfl) (Rd.sl (Sl.up hs) (gm (by omega)))) rfl ?_
      refine Ops.u (Dtu.asg (lk rfl)) rfl ?_
      refine Ops.u (Dtu.asg (lk rfl)) rfl ?_
      refine Ops.nil ?_
      refine Then.next ?_
      refine Body.seq ?_
      refine Body.region ?_
      refine Ops.u (Dtu.mv (lk rfl)) rfl ?_
      refine Ops.u (Dtu.mv (lk rfl)) rfl ?_
      refine Ops.u (Dtu.ix (i := (k)) Try.underlying59 Try.sizeOf62 (Sl.up ht) (lk rfl) (lk rfl) (by omega) (by omega)) rfl ?_
      refine Ops.d (Det.ld Try.isAgg62 (lk rfl) (Rd.sl (Sl.up ht) (gm (by omega)))) rfl ?_
      refine Ops.u (Dtu.asg (lk rfl)) rfl ?_
      refine Ops.nil ?_
      refine Then.next ?_
      refine Body.seq ?_
      refine Body.region ?_
      refine Ops.u (Dtu.mv (lk rfl)) rfl ?_
      refine Ops.u (Dtu.mv (lk rfl)) rfl ?_
      refine Ops.u (Dtu.mv (lk rfl)) rfl ?_
      refine Ops.s (Stp.call rfl Try.call87 (lks rfl) (fun E' le hat => equalC_ok E' _ _ _ _ (Sl.mono (by assumption) le) (Sl.mono (by assumption) le)) ?_) rfl
      rintro _ _ ⟨rfl, rfl⟩
      refine Ops.u (Dtu.notP (lk rfl)) rfl ?_
      refine Ops.nil ?_
      refine Then.next ?_
      refine Body.condP (lk rfl) (fun c30 => ?_) (fun c30 => ?_)
      · refine Body.seq ?_
        refine Body.region ?_
        refine Ops.u (Dtu.asg (lk rfl)) rfl ?_
        refine Ops.nil ?_
        refine Then.next ?_
        refine Body.ret ?_
        refine Blk.ret ?_
        refine Then.ret ?_
        refine Round.ret ?_
        refine Blk.ret ?_
        refine Then.ret ?_
        have := c30
        have hq : rs.map Row.cs ≠ ss.map Row.cs := fun e => by
          have e2 := congrArg (fun l => l[k]!) e
          simp only [List.getElem!_eq_getElem?_getD, List.getElem?_map] at e2
          simp [List.getElem!_eq_getElem?_getD] at this
          rw [List.getElem?_eq_getElem (by omega), List.getElem?_eq_getElem (by omega)] at e2 this
          simp at e2 this
          exact this e2
        exact ⟨.inr rfl, _, pk [] rfl, bool_eq (by simp [hq]), rfl⟩
      · refine Body.skip ?_
        refine Blk.norm ?_
        refine Then.next ?_
        refine Body.region ?_
        refine Ops.u (Dtu.add (lk rfl) (lk rfl) (w64 (by omega) (by omega))) rfl ?_
        refine Ops.u (Dtu.mv (lk rfl)) rfl ?_
        refine Ops.nil ?_
        have hb2 : ∀ j, j < k + 1 → rs[j]!.cs = ss[j]!.cs := fun j hj => by
          by_cases e : j = k
          · subst e; simpa using c30
          · exact hb j (by omega)
        refine Round.goK [] (k + 1) rfl rfl rfl ⟨int_eq (by omega), trivial⟩ rfl rfl ⟨by omega, hb2⟩ (by omega)
    · refine Body.exit ?_
      refine Then.exit ?_
      refine Round.exit ?_
      refine Blk.here ?_
      refine Then.next ?_
      refine Body.seq ?_
      refine Body.region ?_
      refine Ops.u (Dtu.asg (lk rfl)) rfl ?_
      refine Ops.nil ?_
      refine Then.next ?_
      refine Body.ret ?_
      have hq : rs.map Row.cs = ss.map Row.cs := List.ext_getElem (by simp [hl]) fun j h1 h2 => by
        simp only [List.length_map] at h1 h2
        have := hb j (by omega)
        rw [getElem!_pos rs j h1, getElem!_pos ss j h2] at this
        simpa using this
      exact ⟨.inr rfl, _, pk [] rfl, bool_eq (by simp [hq]), rfl⟩
end Go.Proofs.Ytpmapedhigjalaa
end
section
/- A grid as one thing: how many rows and columns, and what stands where. -/
namespace Go.Proofs.Ytpmapedhigjalaa
set_option maxRecDepth 100000
set_option linter.unusedVariables false
set_option linter.unusedSimpArgs false
open Go.Sx

structure Gd where
  r : Nat
  c : Nat
  f : Nat → Nat → Cell
def tabR (c : Nat) (f : Nat → Cell) : List Cell := (List.range c).map f
def tab (r c : Nat) (f : Nat → Nat → Cell) : List (List Cell) := (List.range r).map fun i => tabR c (f i)
def Gd.css (g : Gd) : List (List Cell) := tab g.r g.c g.f
structure Gd.Ok (g : Gd) : Prop where
  r : 1 ≤ g.r ∧ g.r ≤ 12
  c : 1 ≤ g.c ∧ g.c ≤ 40
theorem tabR_len (c : Nat) (f : Nat → Cell) : (tabR c f).length = c := by simp [tabR]
theorem tab_len (r c : Nat) (f : Nat → Nat → Cell) : (tab r c f).length = r := by simp [tab]
theorem tabR_get {c : Nat} {f : Nat → Cell} {k : Nat} : (tabR c f)[k]? = if k < c then some (f k) else none := by
  unfold tabR
  rw [List.getElem?_map]
  split
  · rename_i h; rw [List.getElem?_range h]; rfl
  · rename_i h; rw [List.getElem?_eq_none (by simp; omega)]; rfl
theorem tab_get {r c : Nat} {f : Nat → Nat → Cell} {i : Nat} : (tab r c f)[i]? = if i < r then some (tabR c (f i)) else none := by
  unfold tab
  rw [List.getElem?_map]
  split
  · rename_i h; rw [List.getElem?_range h]; rfl
  · rename_i h; rw [List.getElem?_eq_none (by simp; omega)]; rfl
theorem tabR_at {c : Nat} {f : Nat → Cell} {k : Nat} (h : k < c) : (tabR c f)[k]! = f k := by
  rw [List.getElem!_eq_getElem?_getD, tabR_get, if_pos h]; rfl
theorem tab_at {r c : Nat} {f : Nat → Nat → Cell} {i : Nat} (h : i < r) : (tab r c f)[i]! = tabR c (f i) := by
  rw [List.getElem!_eq_getElem?_getD, tab_get, if_pos h]; rfl
theorem tabR_eq {l : List Cell} {c : Nat} {f : Nat → Cell} (h : ∀ k, l[k]? = if k < c then some (f k) else none) : l = tabR c f :=
  List.ext_getElem? fun k => by rw [h, tabR_get]
theorem tab_eq {l : List (List Cell)} {r c : Nat} {f : Nat → Nat → Cell} (h : ∀ i, l[i]? = if i < r then some (tabR c (f i)) else none) : l = tab r c f :=
  List.ext_getElem? fun k => by rw [h, tab_get]
theorem tabR_congr {c : Nat} {f g : Nat → Cell} (h : ∀ k, k < c → f k = g k) : tabR c f = tabR c g :=
  tabR_eq fun k => by
    rw [tabR_get]; split
    · rename_i hk; rw [h k hk]
    · rfl
theorem tab_congr {r c : Nat} {f g : Nat → Nat → Cell} (h : ∀ i k, i < r → k < c → f i k = g i k) : tab r c f = tab r c g :=
  tab_eq fun k => by
    rw [tab_get]; split
    · rename_i hk; rw [tabR_congr fun j hj => h k j hk hj]
    · rfl
theorem rep_tabR (c : Nat) (x : Cell) : List.replicate c x = tabR c fun _ => x := tabR_eq fun k => by rw [List.getElem?_replicate]
theorem rep_tab (r c : Nat) (x : Cell) : List.replicate r (List.replicate c x) = tab r c fun _ _ => x := tab_eq fun k => by rw [List.getElem?_replicate, rep_tabR]
/-- a grid that a program holds -/
def gridP (b : Nat) (g : Gd) : HProp := fun h => g.Ok ∧ ∃ a c rs, rs.map Row.cs = g.css ∧ Sat (gridA b g.c a rs.length c rs) h
theorem gridP_out {E : Env} {b : Nat} {g : Gd} {H : List HProp} {w : World} (s : St E (gridP b g :: H) w) : g.Ok ∧ ∃ a c rs, rs.map Row.cs = g.css ∧ St E (gridA b g.c a rs.length c rs ++ H) w := by
  obtain ⟨h, ⟨h1, h2, ⟨ok, a, c, rs, hr, s1⟩, s2, d, rfl⟩, dE, l⟩ := s.has
  exact ⟨ok, a, c, rs, hr, ⟨_, Sat.append.2 ⟨h1, h2, s1, s2, d, rfl⟩, dE, l⟩, s.keep, s.os, s.tape, s.output⟩
theorem gridP_in {E : Env} {b : Nat} {g : Gd} {a : Option Addr} {c : Nat} {rs : List Row} {H : List HProp} {w : World} (ok : g.Ok) (hr : rs.map Row.cs = g.css) (s : St E (gridA b g.c a rs.length c rs ++ H) w) : St E (gridP b g :: H) w := by
  obtain ⟨h, s0, dE, l⟩ := s.has
  obtain ⟨h1, h2, s1, s2, d, rfl⟩ := Sat.append.1 s0
  exact ⟨⟨_, ⟨h1, h2, ⟨ok, a, c, rs, hr, s1⟩, s2, d, rfl⟩, dE, l⟩, s.keep, s.os, s.tape, s.output⟩
theorem Gd.fit {g : Gd} (ok : g.Ok) {rs : List Row} (hr : rs.map Row.cs = g.css) : Fit g.c rs := by
  have hl : rs.length = g.r := by have := congrArg List.length hr; rw [List.length_map, Gd.css, tab_len] at this; exact this
  refine ⟨by rw [hl]; exact ok.r, by have := ok.c; omega, fun r hm => ?_⟩
  have : r.cs ∈ rs.map Row.cs := List.mem_map.2 ⟨r, hm, rfl⟩
  rw [hr] at this
  obtain ⟨i, _, hi⟩ := List.mem_map.1 this
  rw [← hi, tabR_len]
theorem Gd.len {g : Gd} {rs : List Row} (hr : rs.map Row.cs = g.css) : rs.length = g.r := by
  have := congrArg List.length hr; rw [List.length_map, Gd.css, tab_len] at this; exact this
section
variable {P : Program} {g : FuncId} {args : Array Value} {E : Env} {H : List HProp} {Q Q' : Value → List HProp → Prop}
theorem Does.post (h : Does P g args E H Q) (k : ∀ v H', Q v H' → ∃ H2, (∀ w, St E H' w → St E H2 w) ∧ Q' v H2) : Does P g args E H Q' := fun w s =>
  (h w s).mono fun _ _ ⟨v, H', e, q, s'⟩ => let ⟨H2, hs, q'⟩ := k v H' q; ⟨v, H2, e, q', hs _ s'⟩
theorem Does.frame {Hc Hf : List HProp} (h : ∀ E', E.Le E' → (∀ A ∈ Hf, At A E') → Does P g args E' Hc Q) : Does P g args E (Hc ++ Hf) fun v H' => ∃ A, Q v A ∧ H' = A ++ Hf := fun w s => by
  obtain ⟨E', le, hat, s1, back⟩ := s.frame
  refine (h E' le hat w s1).mono ?_
  rintro e w' ⟨v, A, rfl, q, s'⟩
  exact ⟨v, A ++ Hf, rfl, ⟨A, q, rfl⟩, back A w' s'⟩
theorem Does.grid {b : Nat} {gd : Gd} (h : gd.Ok → ∀ a c rs, rs.map Row.cs = gd.css → Fit gd.c rs → rs.length = gd.r → Does P g args E (gridA b gd.c a rs.length c rs ++ H) Q) : Does P g args E (gridP b gd :: H) Q := fun w s => by
  obtain ⟨ok, a, c, rs, hr, s'⟩ := gridP_out s
  exact h ok a c rs hr (Gd.fit ok hr) (Gd.len hr) w s'
/-- a call that asks for the grid's own cells alone -/
theorem Does.gridO {b : Nat} {gd : Gd} (v : Value) (h : gd.Ok → ∀ E' a m c, m = gd.r → Does P g args E' [own b [.int .i64 gd.c, .slice a m c] 61] fun r H' => r = v ∧ H' = [own b [.int .i64 gd.c, .slice a m c] 61]) : Does P g args E [gridP b gd] fun r H' => r = v ∧ H' = [gridP b gd] := by
  refine Does.grid fun ok a c rs hr hf hl => ?_
  refine Does.post (Does.frame (Hf := [_, _]) fun E' _ _ => h ok E' a rs.length c hl) ?_
  rintro r H' ⟨A, ⟨rfl, rfl⟩, rfl⟩
  exact ⟨_, fun w s => gridP_in ok hr s, rfl, rfl⟩
end
def Gd.has (g : Gd) (row col : Int) : Prop := 0 ≤ row ∧ row < g.r ∧ 0 ≤ col ∧ col < g.c
instance (g : Gd) (row col : Int) : Decidable (g.has row col) := by unfold Gd.has; infer_instance
def Gd.rows (g : Gd) (top bottom n : Int) : Prop := 0 ≤ top ∧ top ≤ bottom ∧ bottom < g.r ∧ 0 ≤ n
instance (g : Gd) (row col n : Int) : Decidable (g.rows row col n) := by unfold Gd.rows; infer_instance
def erI (p : Prop) [Decidable p] : Int := if p then 0 else 1
theorem hasE_g {g : Gd} (ok : g.Ok) {m : Nat} (hm : m = g.r) (row col : Int) : hasE m g.c row col = erI (g.has row col) := by
  subst hm
  have := ok.r
  unfold hasE erI Gd.has
  rw [if_neg (by omega)]
theorem rowsE_g {g : Gd} (ok : g.Ok) {m : Nat} (hm : m = g.r) (t u n : Int) : rowsE m t u n = erI (g.rows t u n) := by
  subst hm
  have := ok.r
  unfold rowsE erI Gd.rows
  rw [if_neg (by omega)]
theorem cellsE_g {g : Gd} (ok : g.Ok) {m : Nat} (hm : m = g.r) (row col n : Int) : cellsE m g.c row col n = erI (g.has row col ∧ 0 ≤ n) := by
  unfold cellsE
  rw [hasE_g ok hm]
  unfold erI
  by_cases h : g.has row col
  · simp only [h, true_and, if_true]; split <;> split <;> omega
  · simp [h]
theorem erI_pos {p : Prop} [Decidable p] (h : p) : erI p = 0 := if_pos h
theorem erI_neg {p : Prop} [Decidable p] (h : ¬ p) : erI p = 1 := if_neg h
theorem erI_ne {p : Prop} [Decidable p] (h : ¬ p) : erI p ≠ 0 := by rw [erI_neg h]; decide
end Go.Proofs.Ytpmapedhigjalaa
end
section
/- A grid as one thing: what is asked of it, and what changes it. -/
namespace Go.Proofs.Ytpmapedhigjalaa
set_option maxRecDepth 100000
set_option linter.unusedVariables false
set_option linter.unusedSimpArgs false
open Go.Sx

theorem css_at {g : Gd} {i : Nat} (h : i < g.r) : g.css[i]! = tabR g.c (g.f i) := tab_at h
theorem row_cs {g : Gd} {rs : List Row} (hr : rs.map Row.cs = g.css) {i : Nat} (h : i < g.r) : rs[i]!.cs = tabR g.c (g.f i) := by
  have hl := Gd.len hr
  rw [← css_at h, ← hr, getElem!_pos rs i (by omega), getElem!_pos (rs.map Row.cs) i (by simp; omega), List.getElem_map]
theorem rowsn_g (E : Env) (b : Nat) (g : Gd) : Does Try.prog 32 #[.pointer (some ⟨b, 0, none⟩)] E ([gridP b g]) fun r H' => r = .int .i64 g.r ∧ H' = [gridP b g] := by
  exact Does.gridO _ fun ok E' a m c hm => by subst hm; exact growsn_ok E' b g.c a _ c
theorem colsn_g (E : Env) (b : Nat) (g : Gd) : Does Try.prog 33 #[.pointer (some ⟨b, 0, none⟩)] E ([gridP b g]) fun r H' => r = .int .i64 g.c ∧ H' = [gridP b g] := by
  exact Does.gridO _ fun ok E' a m c hm => gcolsn_ok E' b g.c a m c
def Gd.atV (g : Gd) (row col : Int) : Value := if g.has row col then .tuple #[.agg (g.f row.toNat col.toNat).enc.toArray, .int .i64 0] else .tuple #[.agg #[.int .i32 0, .int .u8 0, .int .u32 0, .int .u32 0], .int .i64 1]
theorem at_g (E : Env) (b : Nat) (g : Gd) (row col : Int) : Does Try.prog 16 #[.pointer (some ⟨b, 0, none⟩), .int .i64 row, .int .i64 col] E ([gridP b g]) fun r H' => r = g.atV row col ∧ H' = [gridP b g] := by
  by_cases h : g.has row col
  · have h' := h
    obtain ⟨h1, h2, h3, h4⟩ := h
    obtain ⟨i, rfl⟩ := Int.eq_ofNat_of_zero_le h1
    obtain ⟨k, rfl⟩ := Int.eq_ofNat_of_zero_le h3
    refine Does.grid fun ok a c rs hr hf hl => ?_
    refine Does.post (gat_ok E b g.c a rs.length c rs hf i k (by rw [hasE_g ok hl, erI_pos h'])) ?_
    rintro r H' ⟨rfl, rfl⟩
    refine ⟨_, fun w s => gridP_in ok hr (by simpa using s), ?_, rfl⟩
    rw [row_cs hr (by omega), tabR_at (by omega), Gd.atV, if_pos h']; rfl
  · rw [Gd.atV, if_neg h]
    refine Does.gridO _ fun ok E' a m c hm => ?_
    have := gat_no E' b g.c a m c row col (by rw [hasE_g ok hm]; exact erI_ne h)
    rwa [hasE_g ok hm, erI_neg h] at this
def Gd.put (g : Gd) (row col : Int) (x : Cell) : Gd := if g.has row col then ⟨g.r, g.c, fun i k => if (i : Int) = row ∧ (k : Int) = col then x else g.f i k⟩ else g
theorem setC_css {g : Gd} {rs : List Row} (hr : rs.map Row.cs = g.css) {j : Nat} (hj : j < g.r) {cs : List Cell} {f : Nat → Nat → Cell} (h : cs = tabR g.c (f j)) (hf : ∀ i, i ≠ j → f i = g.f i) : (setC rs j cs).map Row.cs = tab g.r g.c f := by
  rw [setC_cs, hr]
  refine tab_eq fun i => ?_
  rw [List.getElem?_set, Gd.css, tab_len]
  split
  · rename_i e; subst e; rw [if_pos hj, h]
  · rename_i e
    rw [tab_get, hf i (fun h => e h.symm)]
theorem gridA_post {b : Nat} {g : Gd} {f' : Nat → Nat → Cell} {a : Option Addr} {c : Nat} {rs rs' : List Row} (ok : g.Ok) (hlen : rs'.length = rs.length) (hr : rs'.map Row.cs = tab g.r g.c f') (E : Env) (w : World) (s : St E (gridA b g.c a rs.length c rs') w) : St E [gridP b ⟨g.r, g.c, f'⟩] w :=
  gridP_in (g := ⟨g.r, g.c, f'⟩) ⟨ok.r, ok.c⟩ hr (by rw [hlen]; simpa using s)
theorem put_g (E : Env) (b : Nat) (g : Gd) (row col p f gg q : Int) : Does Try.prog 29 #[.pointer (some ⟨b, 0, none⟩), .int .i64 row, .int .i64 col, .agg #[.int .i32 p, .int .u8 f, .int .u32 gg, .int .u32 q]] E ([gridP b g]) fun r H' => r = .int .i64 (erI (g.has row col)) ∧ H' = [gridP b (g.put row col ⟨p, f, gg, q⟩)] := by
  by_cases h : g.has row col
  · have h' := h
    obtain ⟨h1, h2, h3, h4⟩ := h
    obtain ⟨i, rfl⟩ := Int.eq_ofNat_of_zero_le h1
    obtain ⟨k, rfl⟩ := Int.eq_ofNat_of_zero_le h3
    refine Does.grid fun ok a c rs hr hf hl => ?_
    refine Does.post (gput_ok E b g.c a rs.length c rs hf i k p f gg q (by rw [hasE_g ok hl, erI_pos h'])) ?_
    rintro r H' ⟨rfl, rfl⟩
    rw [Gd.put, if_pos h', erI_pos h']
    refine ⟨_, fun w s => ?_, rfl, rfl⟩
    refine gridA_post ok (setC_len _) (setC_css hr (by omega) ?_ ?_) E w s
    · rw [row_cs hr (by omega)]
      refine tabR_eq fun j => ?_
      rw [List.getElem?_set, tabR_len, tabR_get]
      by_cases e : k = j
      · subst e; simp
      · simp [e, show ¬ ((j : Int) = k) by omega]
    · intro j hj; funext k; simp [show ¬ (j : Int) = i by omega]
  · rw [Gd.put, if_neg h, erI_neg h]
    refine Does.gridO _ fun ok E' a m c hm => ?_
    have := gput_no E' b g.c a m c row col p f gg q (by rw [hasE_g ok hm]; exact erI_ne h)
    rwa [hasE_g ok hm, erI_neg h] at this
def Gd.fill (g : Gd) (row lo hi : Int) (x : Cell) : Gd := if g.has row 0 then ⟨g.r, g.c, fun i k => if (i : Int) = row ∧ lo ≤ k ∧ (k : Int) < hi then x else g.f i k⟩ else g
theorem fill_g (E : Env) (b : Nat) (g : Gd) (row lo up p f gg q : Int) : Does Try.prog 30 #[.pointer (some ⟨b, 0, none⟩), .int .i64 row, .int .i64 lo, .int .i64 up, .agg #[.int .i32 p, .int .u8 f, .int .u32 gg, .int .u32 q]] E ([gridP b g]) fun r H' => r = .int .i64 (erI (g.has row 0)) ∧ H' = [gridP b (g.fill row lo up ⟨p, f, gg, q⟩)] := by
  by_cases h : g.has row 0
  · have h' := h
    obtain ⟨h1, h2, h3, h4⟩ := h
    obtain ⟨i, rfl⟩ := Int.eq_ofNat_of_zero_le h1
    refine Does.grid fun ok a c rs hr hf hl => ?_
    refine Does.post (gfill_ok E b g.c a rs.length c rs hf i lo up p f gg q (by rw [hasE_g ok hl, erI_pos h'])) ?_
    rintro r H' ⟨rfl, rfl⟩
    rw [Gd.fill, if_pos h', erI_pos h']
    refine ⟨_, fun w s => ?_, rfl, rfl⟩
    refine gridA_post ok (setC_len _) (setC_css hr (by omega) ?_ ?_) E w s
    · rw [row_cs hr (by omega)]
      refine tabR_eq fun j => ?_
      unfold fillR
      rw [List.getElem?_map, tabR_len]
      by_cases e : j < g.c
      · rw [List.getElem?_range e, if_pos e, Option.map_some, tabR_at e]
        have e1 : (lo.toNat ≤ j ∧ j < (min up (g.c : Int)).toNat) ↔ (lo ≤ (j : Int) ∧ (j : Int) < up) := by omega
        simp only [e1, true_and]
      · rw [List.getElem?_eq_none (by simp; omega), if_neg e]; rfl
    · intro j hj; funext k; simp [show ¬ (j : Int) = i by omega]
  · rw [Gd.fill, if_neg h, erI_neg h]
    refine Does.gridO _ fun ok E' a m c hm => ?_
    have := gfill_zero E' b g.c a m c row lo up p f gg q (by rw [hasE_g ok hm]; exact erI_ne h)
    rwa [hasE_g ok hm, erI_neg h] at this
def Gd.up (g : Gd) (t u n : Int) (x : Cell) : Gd := if g.rows t u n then ⟨g.r, g.c, fun i k => if t ≤ i ∧ (i : Int) ≤ u then (if (i : Int) + n ≤ u then g.f (i + n).toNat k else x) else g.f i k⟩ else g
theorem up_g (E : Env) (b : Nat) (g : Gd) (t u n p f gg q : Int) : Does Try.prog 23 #[.pointer (some ⟨b, 0, none⟩), .int .i64 t, .int .i64 u, .int .i64 n, .agg #[.int .i32 p, .int .u8 f, .int .u32 gg, .int .u32 q]] E ([gridP b g]) fun r H' => r = .int .i64 (erI (g.rows t u n)) ∧ H' = [gridP b (g.up t u n ⟨p, f, gg, q⟩)] := by
  by_cases h : g.rows t u n
  · have h' := h
    obtain ⟨h1, h2, h3, h4⟩ := h
    obtain ⟨t, rfl⟩ := Int.eq_ofNat_of_zero_le h1
    obtain ⟨u, rfl⟩ := Int.eq_ofNat_of_zero_le (show 0 ≤ u by omega)
    obtain ⟨n, rfl⟩ := Int.eq_ofNat_of_zero_le h4
    refine Does.grid fun ok a c rs hr hf hl => ?_
    refine Does.post (gup_ok E b g.c a rs.length c rs hf t u n p f gg q (by rw [rowsE_g ok hl, erI_pos h'])) ?_
    rintro r H' ⟨z, hz, hzc, rfl, rfl⟩
    rw [Gd.up, if_pos h', erI_pos h']
    refine ⟨_, fun w s => ?_, rfl, rfl⟩
    have hzz : z.map Row.cs = List.replicate (min n (u + 1 - t)) (tabR g.c fun _ => ⟨p, f, gg, q⟩) := by
      rw [← hz, List.eq_replicate_iff]
      refine ⟨by simp, fun x hx => ?_⟩
      obtain ⟨y, hy, rfl⟩ := List.mem_map.1 hx
      rw [hzc y hy, ← rep_tabR]; rfl
    refine gridA_post ok (rsU_len (Nat.min_le_right _ _) (by omega) hz) ?_ E w s
    unfold rsU
    simp only [List.map_append, List.map_take, List.map_drop, hr, hzz, Gd.css]
    refine tab_eq fun i => ?_
    simp only [List.getElem?_append, List.getElem?_take, List.getElem?_drop, List.getElem?_replicate, List.length_take, List.length_drop, List.length_replicate, tab_len, tab_get]
    by_cases a1 : i < t
    · rw [if_pos (by omega), if_pos a1]
      simp only [show i < g.r by omega, show ¬ ((t : Int) ≤ i ∧ (i : Int) ≤ u) by omega, if_true, if_false]
    · rw [if_neg (by omega)]
      by_cases a2 : i < t + (u + 1 - t - min n (u + 1 - t))
      · rw [if_pos (by omega), if_pos (by omega), if_pos (by omega), if_pos (by omega)]
        simp only [show ((t : Int) ≤ i ∧ (i : Int) ≤ u) by omega, show (i : Int) + n ≤ u by omega, and_self, if_true, show ((i : Int) + n).toNat = t + min n (u + 1 - t) + (i - min t g.r) by omega]
      · rw [if_neg (by omega)]
        by_cases a3 : i ≤ u
        · rw [if_pos (by omega), if_pos (by omega), if_pos (by omega)]
          simp only [show ((t : Int) ≤ i ∧ (i : Int) ≤ u) by omega, show ¬ (i : Int) + n ≤ u by omega, and_self, if_true, if_false]
        · rw [if_neg (by omega)]
          simp only [show ¬ ((t : Int) ≤ i ∧ (i : Int) ≤ u) by omega, if_false, show t + (u + 1 - t) + (i - min t g.r - min (u + 1 - t - min n (u + 1 - t)) (g.r - (t + min n (u + 1 - t))) - min n (u + 1 - t)) = i by omega]
  · rw [Gd.up, if_neg h, erI_neg h]
    refine Does.gridO _ fun ok E' a m c hm => ?_
    have := gup_no E' b g.c a m c t u n p f gg q (by rw [rowsE_g ok hm]; exact erI_ne h)
    rwa [rowsE_g ok hm, erI_neg h] at this
end Go.Proofs.Ytpmapedhigjalaa
end
