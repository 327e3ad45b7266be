/- QNa: Cell, Close, OpenV, Slices, GriA, GriB, GriC, GriU, GriD, GriE, GriN, OpenN, NobodyP. -/
import Derived.WalkKit
import Derived.ProofKit
import Derived.OpenShut
import Derived.Carry
import Derived.Deep.Slices
import Derived.Test.YtpmapedhigjalaaRna
import Derived.Test.YtpmapedhigjalaaRnb
import Derived.Test.YtpmapedhigjalaaRnc
section
/- A cell and a style, and the document's. -/
namespace Go.Proofs.Ytpmapedhigjalaa
set_option maxRecDepth 100000
set_option linter.unusedVariables false
set_option linter.unusedSimpArgs false
open Go.Sx

theorem bool_eq {a b : Bool} (h : a = true ↔ b = true) : Value.bool a = Value.bool b := by
  congr 1; cases a <;> cases b <;> simp_all
structure Cell where
  pt : Int
  fl : Int
  fg : Int
  bg : Int
  deriving DecidableEq, Inhabited
def Cell.enc (c : Cell) : List Value := [.int .i32 c.pt, .int .u8 c.fl, .int .u32 c.fg, .int .u32 c.bg]
def Cell.style (c : Cell) : List Value := [.int .u8 c.fl, .int .u32 c.fg, .int .u32 c.bg]
/-- what a cell's memory may hold -/
def Cell.In (c : Cell) : Prop := 0 ≤ c.fl ∧ c.fl < 256 ∧ 0 ≤ c.fg ∧ c.fg < 4294967296 ∧ 0 ≤ c.bg ∧ c.bg < 4294967296
def bit8 (fl : Int) (i : Nat) : Bool := decide (fl / 2 ^ i % 2 = 1)
/-- a style as the document's -/
def rsty (fl fg bg : Int) : List Value := [.bool (bit8 fl 0), .bool (bit8 fl 1), .bool (bit8 fl 2), .bool (bit8 fl 3), .bool (bit8 fl 4), .bool (bit8 fl 5), .bool (bit8 fl 6), .bool (bit8 fl 7), .int .u32 fg, .int .u32 bg]
def ofC (fl : Int) (k : Nat) (fg bg : Int) : List Value := (List.range 8).map (fun j => .bool (if j < k then bit8 fl j else false)) ++ [.int .u32 fg, .int .u32 bg]
theorem rof_ok (E : Env) (fl fg bg : Int) (h0 : 0 ≤ fl) (h1 : fl < 256) : Does Try.prog 110 #[.int .u8 fl, .int .u32 fg, .int .u32 bg] E [] fun r H' => r = .agg (rsty fl fg bg).toArray ∧ H' = [] := by
  refine Does.go (args := [.int .u8 fl, .int .u32 fg, .int .u32 bg]) _ _ Try.func110 rfl Try.ntmps110 rfl rfl ?_
  refine Body.seq ?_
  refine Body.region ?_
  refine Ops.s (Stp.alloc ty47 (fun b6 => ?_)) rfl
  refine Ops.nil ?_
  refine Then.next ?_
  refine Body.seq ?_
  refine Body.region ?_
  refine Ops.u (Dtu.mv (lk rfl)) rfl ?_
  refine Ops.u (Dtu.mv (lk rfl)) rfl ?_
  refine Ops.u (Dtu.build ty47 pl47 (lkp rfl) rfl rfl) rfl ?_
  refine Ops.s (Stp.alloc ty47 (fun b7 => ?_)) rfl
  refine Ops.e (Stp.store 0 Try.sizeOf47 (lk rfl) (lk rfl) rfl rfl rfl rfl rfl rfl rfl ?_)
  refine Ops.nil ?_
  refine Then.next ?_
  refine Body.seq ?_
  refine Body.seq ?_
  refine Body.region ?_
  refine Ops.u (Dtu.asg (lk rfl)) rfl ?_
  refine Ops.nil ?_
  refine Then.next ?_
  refine Body.block ?_
  refine Body.loopF (γ := Nat) rfl (fun i => [(8, .int .i64 i), (0, .int .u8 (fl / 2 ^ i))]) (fun i => [own b7 (ofC fl i fg bg) 47, own b6 (ofC 0 0 0 0) 47]) (fun i => i ≤ 8) (fun i => 8 - i) 0 (by omega) ⟨rfl, int_eq (by simp), trivial⟩ rfl ?_
  rintro i u hi
  refine Body.seq ?_
  refine Body.seq ?_
  refine Body.region ?_
  refine Ops.u (Dtu.mv (lk rfl)) rfl ?_
  refine Ops.u (Dtu.lss (lk rfl) (lk rfl)) rfl ?_
  refine Ops.nil ?_
  refine Then.next ?_
  refine Body.condP (lk rfl) (fun c13 => ?_) (fun c13 => ?_)
  · have hq : 0 ≤ fl / 2 ^ i := Int.ediv_nonneg h0 (Int.pow_nonneg (by omega))
    have hq2 : fl / 2 ^ i ≤ fl := Int.ediv_le_self _ h0
    have hm : (fl / 2 ^ i).tmod 2 = fl / 2 ^ i % 2 := Int.tmod_eq_emod_of_nonneg hq
    have hd : (fl / 2 ^ i).tdiv 2 = fl / 2 ^ (i + 1) := by
      rw [Int.tdiv_eq_ediv_of_nonneg hq, Int.pow_succ, ← Int.ediv_ediv_of_nonneg (Int.pow_nonneg (by omega))]
    obtain rfl | rfl | rfl | rfl | rfl | rfl | rfl | rfl : i = 0 ∨ i = 1 ∨ i = 2 ∨ i = 3 ∨ i = 4 ∨ i = 5 ∨ i = 6 ∨ i = 7 := by omega
    · refine Body.skip ?_
      refine Then.next ?_
      refine Body.seq ?_
      refine Body.block ?_
      refine Body.seq ?_
      refine Body.region ?_
      refine Ops.u (Dtu.mv (lk rfl)) rfl ?_
      refine Ops.u (Dtu.mv (lk rfl)) rfl ?_
      refine Ops.u (Dtu.rem (lk rfl) (lk rfl) (by first | decide | omega) rfl) rfl ?_
      refine Ops.u (Dtu.eql (lk rfl) (lk rfl)) rfl ?_
      refine Ops.u (Dtu.fld fa47_0 (lk rfl)) rfl ?_
      refine Ops.u (Dtu.ixa (i := 0) Try.underlying45 Try.sizeOf4 (lk rfl) (lk rfl) (by omega) (by omega)) rfl ?_
      refine Ops.e (Stp.store 0 Try.sizeOf4 (lk rfl) (lk rfl) rfl rfl rfl rfl rfl rfl rfl ?_)
      refine Ops.nil ?_
      refine Then.next ?_
      refine Body.region ?_
      refine Ops.u (Dtu.mv (lk rfl)) rfl ?_
      refine Ops.u (Dtu.quo (lk rfl) (lk rfl) (by first | decide | omega) (wu8 (by omega) (by omega))) rfl ?_
      refine Ops.u (Dtu.asg (lk rfl)) rfl ?_
      refine Ops.nil ?_
      refine Blk.norm ?_
      refine Then.next ?_
      refine Body.region ?_
      refine Ops.u (Dtu.mv (lk rfl)) rfl ?_
      refine Ops.u (Dtu.add (lk rfl) (lk rfl) (w64 (by omega) (by omega))) rfl ?_
      refine Ops.u (Dtu.asg (lk rfl)) rfl ?_
      refine Ops.nil ?_
      exact Round.goF 1 rfl rfl rfl ⟨rfl, int_eq hd, trivial⟩ (by rw [hm]; rfl) (by decide) (by decide)
    · refine Body.skip ?_
      refine Then.next ?_
      refine Body.seq ?_
      refine Body.block ?_
      refine Body.seq ?_
      refine Body.region ?_
      refine Ops.u (Dtu.mv (lk rfl)) rfl ?_
      refine Ops.u (Dtu.mv (lk rfl)) rfl ?_
      refine Ops.u (Dtu.rem (lk rfl) (lk rfl) (by first | decide | omega) rfl) rfl ?_
      refine Ops.u (Dtu.eql (lk rfl) (lk rfl)) rfl ?_
      refine Ops.u (Dtu.fld fa47_0 (lk rfl)) rfl ?_
      refine Ops.u (Dtu.ixa (i := 1) Try.underlying45 Try.sizeOf4 (lk rfl) (lk rfl) (by omega) (by omega)) rfl ?_
      refine Ops.e (Stp.store 0 Try.sizeOf4 (lk rfl) (lk rfl) rfl rfl rfl rfl rfl rfl rfl ?_)
      refine Ops.nil ?_
      refine Then.next ?_
      refine Body.region ?_
      refine Ops.u (Dtu.mv (lk rfl)) rfl ?_
      refine Ops.u (Dtu.quo (lk rfl) (lk rfl) (by first | decide | omega) (wu8 (by omega) (by omega))) rfl ?_
      refine Ops.u (Dtu.asg (lk rfl)) rfl ?_
      refine Ops.nil ?_
      refine Blk.norm ?_
      refine Then.next ?_
      refine Body.region ?_
      refine Ops.u (Dtu.mv (lk rfl)) rfl ?_
      refine Ops.u (Dtu.add (lk rfl) (lk rfl) (w64 (by omega) (by omega))) rfl ?_
      refine Ops.u (Dtu.asg (lk rfl)) rfl ?_
      refine Ops.nil ?_
      exact Round.goF 2 rfl rfl rfl ⟨rfl, int_eq hd, trivial⟩ (by rw [hm]; rfl) (by decide) (by decide)
    · refine Body.skip ?_
      refine Then.next ?_
      refine Body.seq ?_
      refine Body.block ?_
      refine Body.seq ?_
      refine Body.region ?_
      refine Ops.u (Dtu.mv (lk rfl)) rfl ?_
      refine Ops.u (Dtu.mv (lk rfl)) rfl ?_
      refine Ops.u (Dtu.rem (lk rfl) (lk rfl) (by first | decide | omega) rfl) rfl ?_
      refine Ops.u (Dtu.eql (lk rfl) (lk rfl)) rfl ?_
      refine Ops.u (Dtu.fld fa47_0 (lk rfl)) rfl ?_
      refine Ops.u (Dtu.ixa (i := 2) Try.underlying45 Try.sizeOf4 (lk rfl) (lk rfl) (by omega) (by omega)) rfl ?_
      refine Ops.e (Stp.store 0 Try.sizeOf4 (lk rfl) (lk rfl) rfl rfl rfl rfl rfl rfl rfl ?_)
      refine Ops.nil ?_
      refine Then.next ?_
      refine Body.region ?_
      refine Ops.u (Dtu.mv (lk rfl)) rfl ?_
      refine Ops.u (Dtu.quo (lk rfl) (lk rfl) (by first | decide | omega) (wu8 (by omega) (by omega))) rfl ?_
      refine Ops.u (Dtu.asg (lk rfl)) rfl ?_
      refine Ops.nil ?_
      refine Blk.norm ?_
      refine Then.next ?_
      refine Body.region ?_
      refine Ops.u (Dtu.mv (lk rfl)) rfl ?_
      refine Ops.u (Dtu.add (lk rfl) (lk rfl) (w64 (by omega) (by omega))) rfl ?_
      refine Ops.u (Dtu.asg (lk rfl)) rfl ?_
      refine Ops.nil ?_
      exact Round.goF 3 rfl rfl rfl ⟨rfl, int_eq hd, trivial⟩ (by rw [hm]; rfl) (by decide) (by decide)
    · refine Body.skip ?_
      refine Then.next ?_
      refine Body.seq ?_
      refine Body.block ?_
      refine Body.seq ?_
      refine Body.region ?_
      refine Ops.u (Dtu.mv (lk rfl)) rfl ?_
      refine Ops.u (Dtu.mv (lk rfl)) rfl ?_
      refine Ops.u (Dtu.rem (lk rfl) (lk rfl) (by first | decide | omega) rfl) rfl ?_
      refine Ops.u (Dtu.eql (lk rfl) (lk rfl)) rfl ?_
      refine Ops.u (Dtu.fld fa47_0 (lk rfl)) rfl ?_
      refine Ops.u (Dtu.ixa (i := 3) Try.underlying45 Try.sizeOf4 (lk rfl) (lk rfl) (by omega) (by omega)) rfl ?_
      refine Ops.e (Stp.store 0 Try.sizeOf4 (lk rfl) (lk rfl) rfl rfl rfl rfl rfl rfl rfl ?_)
      refine Ops.nil ?_
      refine Then.next ?_
      refine Body.region ?_
      refine Ops.u (Dtu.mv (lk rfl)) rfl ?_
      refine Ops.u (Dtu.quo (lk rfl) (lk rfl) (by first | decide | omega) (wu8 (by omega) (by omega))) rfl ?_
      refine Ops.u (Dtu.asg (lk rfl)) rfl ?_
      refine Ops.nil ?_
      refine Blk.norm ?_
      refine Then.next ?_
      refine Body.region ?_
      refine Ops.u (Dtu.mv (lk rfl)) rfl ?_
      refine Ops.u (Dtu.add (lk rfl) (lk rfl) (w64 (by omega) (by omega))) rfl ?_
      refine Ops.u (Dtu.asg (lk rfl)) rfl ?_
      refine Ops.nil ?_
      exact Round.goF 4 rfl rfl rfl ⟨rfl, int_eq hd, trivial⟩ (by rw [hm]; rfl) (by decide) (by decide)
    · refine Body.skip ?_
      refine Then.next ?_
      refine Body.seq ?_
      refine Body.block ?_
      refine Body.seq ?_
      refine Body.region ?_
      refine Ops.u (Dtu.mv (lk rfl)) rfl ?_
      refine Ops.u (Dtu.mv (lk rfl)) rfl ?_
      refine Ops.u (Dtu.rem (lk rfl) (lk rfl) (by first | decide | omega) rfl) rfl ?_
      refine Ops.u (Dtu.eql (lk rfl) (lk rfl)) rfl ?_
      refine Ops.u (Dtu.fld fa47_0 (lk rfl)) rfl ?_
      refine Ops.u (Dtu.ixa (i := 4) Try.underlying45 Try.sizeOf4 (lk rfl) (lk rfl) (by omega) (by omega)) rfl ?_
      refine Ops.e (Stp.store 0 Try.sizeOf4 (lk rfl) (lk rfl) rfl rfl rfl rfl rfl rfl rfl ?_)
      refine Ops.nil ?_
      refine Then.next ?_
      refine Body.region ?_
      refine Ops.u (Dtu.mv (lk rfl)) rfl ?_
      refine Ops.u (Dtu.quo (lk rfl) (lk rfl) (by first | decide | omega) (wu8 (by omega) (by omega))) rfl ?_
      refine Ops.u (Dtu.asg (lk rfl)) rfl ?_
      refine Ops.nil ?_
      refine Blk.norm ?_
      refine Then.next ?_
      refine Body.region ?_
      refine Ops.u (Dtu.mv (lk rfl)) rfl ?_
      refine Ops.u (Dtu.add (lk rfl) (lk rfl) (w64 (by omega) (by omega))) rfl ?_
      refine Ops.u (Dtu.asg (lk rfl)) rfl ?_
      refine Ops.nil ?_
      exact Round.goF 5 rfl rfl rfl ⟨rfl, int_eq hd, trivial⟩ (by rw [hm]; rfl) (by decide) (by decide)
    · refine Body.skip ?_
      refine Then.next ?_
      refine Body.seq ?_
      refine Body.block ?_
      refine Body.seq ?_
      refine Body.region ?_
      refine Ops.u (Dtu.mv (lk rfl)) rfl ?_
      refine Ops.u (Dtu.mv (lk rfl)) rfl ?_
      refine Ops.u (Dtu.rem (lk rfl) (lk rfl) (by first | decide | omega) rfl) rfl ?_
      refine Ops.u (Dtu.eql (lk rfl) (lk rfl)) rfl ?_
      refine Ops.u (Dtu.fld fa47_0 (lk rfl)) rfl ?_
      refine Ops.u (Dtu.ixa (i := 5) Try.underlying45 Try.sizeOf4 (lk rfl) (lk rfl) (by omega) (by omega)) rfl ?_
      refine Ops.e (Stp.store 0 Try.sizeOf4 (lk rfl) (lk rfl) rfl rfl rfl rfl rfl rfl rfl ?_)
      refine Ops.nil ?_
      refine Then.next ?_
      refine Body.region ?_
      refine Ops.u (Dtu.mv (lk rfl)) rfl ?_
      refine Ops.u (Dtu.quo (lk rfl) (lk rfl) (by first | decide | omega) (wu8 (by omega) (by omega))) rfl ?_
      refine Ops.u (Dtu.asg (lk rfl)) rfl ?_
      refine Ops.nil ?_
      refine Blk.norm ?_
      refine Then.next ?_
      refine Body.region ?_
      refine Ops.u (Dtu.mv (lk rfl)) rfl ?_
      refine Ops.u (Dtu.add (lk rfl) (lk rfl) (w64 (by omega) (by omega))) rfl ?_
      refine Ops.u (Dtu.asg (lk rfl)) rfl ?_
      refine Ops.nil ?_
      exact Round.goF 6 rfl rfl rfl ⟨rfl, int_eq hd, trivial⟩ (by rw [hm]; rfl) (by decide) (by decide)
    · refine Body.skip ?_
      refine Then.next ?_
      refine Body.seq ?_
      refine Body.block ?_
      refine Body.seq ?_
      refine Body.region ?_
      refine Ops.u (Dtu.mv (lk rfl)) rfl ?_
      refine Ops.u (Dtu.mv (lk rfl)) rfl ?_
      refine Ops.u (Dtu.rem (lk rfl) (lk rfl) (by first | decide | omega) rfl) rfl ?_
      refine Ops.u (Dtu.eql (lk rfl) (lk rfl)) rfl ?_
      refine Ops.u (Dtu.fld fa47_0 (lk rfl)) rfl ?_
      refine Ops.u (Dtu.ixa (i := 6) Try.underlying45 Try.sizeOf4 (lk rfl) (lk rfl) (by omega) (by omega)) rfl ?_
      refine Ops.e (Stp.store 0 Try.sizeOf4 (lk rfl) (lk rfl) rfl rfl rfl rfl rfl rfl rfl ?_)
      refine Ops.nil ?_
      refine Then.next ?_
      refine Body.region ?_
      refine Ops.u (Dtu.mv (lk rfl)) rfl ?_
      refine Ops.u (Dtu.quo (lk rfl) (lk rfl) (by first | decide | omega) (wu8 (by omega) (by omega))) rfl ?_
      refine Ops.u (Dtu.asg (lk rfl)) rfl ?_
      refine Ops.nil ?_
      refine Blk.norm ?_
      refine Then.next ?_
      refine Body.region ?_
      refine Ops.u (Dtu.mv (lk rfl)) rfl ?_
      refine Ops.u (Dtu.add (lk rfl) (lk rfl) (w64 (by omega) (by omega))) rfl ?_
      refine Ops.u (Dtu.asg (lk rfl)) rfl ?_
      refine Ops.nil ?_
      exact Round.goF 7 rfl rfl rfl ⟨rfl, int_eq hd, trivial⟩ (by rw [hm]; rfl) (by decide) (by decide)
    · refine Body.skip ?_
      refine Then.next ?_
      refine Body.seq ?_
      refine Body.block ?_
      refine Body.seq ?_
      refine Body.region ?_
      refine Ops.u (Dtu.mv (lk rfl)) rfl ?_
      refine Ops.u (Dtu.mv (lk rfl)) rfl ?_
      refine Ops.u (Dtu.rem (lk rfl) (lk rfl) (by first | decide | omega) rfl) rfl ?_
      refine Ops.u (Dtu.eql (lk rfl) (lk rfl)) rfl ?_
      refine Ops.u (Dtu.fld fa47_0 (lk rfl)) rfl ?_
      refine Ops.u (Dtu.ixa (i := 7) Try.underlying45 Try.sizeOf4 (lk rfl) (lk rfl) (by omega) (by omega)) rfl ?_
      refine Ops.e (Stp.store 0 Try.sizeOf4 (lk rfl) (lk rfl) rfl rfl rfl rfl rfl rfl rfl ?_)
      refine Ops.nil ?_
      refine Then.next ?_
      refine Body.region ?_
      refine Ops.u (Dtu.mv (lk rfl)) rfl ?_
      refine Ops.u (Dtu.quo (lk rfl) (lk rfl) (by first | decide | omega) (wu8 (by omega) (by omega))) rfl ?_
      refine Ops.u (Dtu.asg (lk rfl)) rfl ?_
      refine Ops.nil ?_
      refine Blk.norm ?_
      refine Then.next ?_
      refine Body.region ?_
      refine Ops.u (Dtu.mv (lk rfl)) rfl ?_
      refine Ops.u (Dtu.add (lk rfl) (lk rfl) (w64 (by omega) (by omega))) rfl ?_
      refine Ops.u (Dtu.asg (lk rfl)) rfl ?_
      refine Ops.nil ?_
      exact Round.goF 8 rfl rfl rfl ⟨rfl, int_eq hd, trivial⟩ (by rw [hm]; rfl) (by decide) (by decide)
  · refine Body.exit ?_
    refine Then.exit ?_
    refine Round.exit ?_
    refine Blk.here ?_
    refine Then.next ?_
    refine Body.seq ?_
    refine Body.region ?_
    refine Ops.d (Det.lda Try.isAgg47 Try.sizeOf47 (lk rfl) (Rds.ow (m := 10) 0 rfl rfl) rfl) rfl ?_
    refine Ops.e (Stp.store 1 Try.sizeOf47 (lk rfl) (lk rfl) rfl rfl rfl rfl rfl rfl rfl ?_)
    refine Ops.nil ?_
    refine Then.next ?_
    refine Body.ret ?_
    obtain rfl : i = 8 := by omega
    exact ⟨.inr rfl, _, Loads.agg Try.isAgg47 Try.sizeOf47 (Rds.ow (m := 10) 1 rfl rfl) rfl, _, pk [] rfl, rfl, rfl⟩
def Cell.rsty (c : Cell) : List Value := Go.Proofs.Ytpmapedhigjalaa.rsty c.fl c.fg c.bg
def Cell.renc (c : Cell) : List Value := .int .i32 c.pt :: Go.Proofs.Ytpmapedhigjalaa.rsty c.fl c.fg c.bg
theorem as16_ok (E : Env) (fl fg bg : Int) (h0 : 0 ≤ fl) (h1 : fl < 256) : Does Try.prog 81 #[.agg #[.int .u8 fl, .int .u32 fg, .int .u32 bg]] E [] fun r H' => r = .agg #[.bool (bit8 fl 0), .bool (bit8 fl 1), .bool (bit8 fl 2), .bool (bit8 fl 3), .bool (bit8 fl 4), .bool (bit8 fl 5), .bool (bit8 fl 6), .bool (bit8 fl 7), .int .u32 fg, .int .u32 bg] ∧ H' = [] := by
  refine Does.go (args := [.agg #[.int .u8 fl, .int .u32 fg, .int .u32 bg]]) _ _ Try.func81 rfl Try.ntmps81 rfl rfl ?_
  refine Body.seq ?_
  refine Body.region ?_
  refine Ops.s (Stp.box (lk rfl) rfl (fun b1 => ?_)) rfl
  refine Ops.s (Stp.alloc ty47 (fun b2 => ?_)) rfl
  refine Ops.nil ?_
  refine Then.next ?_
  refine Body.seq ?_
  refine Body.region ?_
  refine Ops.u (Dtu.fld fa37_0 (lk rfl)) rfl ?_
  refine Ops.d (Det.ld Try.isAgg5 (lk rfl) (Rd.ow 1 rfl rfl)) rfl ?_
  refine Ops.u (Dtu.fld fa37_1 (lk rfl)) rfl ?_
  refine Ops.d (Det.ld Try.isAgg35 (lk rfl) (Rd.ow 1 rfl rfl)) rfl ?_
  refine Ops.u (Dtu.fld fa37_2 (lk rfl)) rfl ?_
  refine Ops.d (Det.ld Try.isAgg35 (lk rfl) (Rd.ow 1 rfl rfl)) rfl ?_
  refine Ops.s (Stp.call rfl Try.call110 (lks rfl) (fun E' le hat => rof_ok E' _ _ _ (by first | assumption | omega) (by first | assumption | omega)) ?_) rfl
  rintro _ _ ⟨rfl, rfl⟩
  refine Ops.e (Stp.store 0 Try.sizeOf47 (lk rfl) (lk rfl) rfl rfl rfl rfl rfl rfl rfl ?_)
  refine Ops.nil ?_
  refine Then.next ?_
  refine Body.ret ?_
  exact ⟨.inr rfl, _, Loads.agg Try.isAgg47 Try.sizeOf47 (Rds.ow (m := 10) 0 rfl rfl) rfl, _, pk [] rfl, rfl, rfl⟩
theorem cell17_ok (E : Env) (pt fl fg bg : Int) (h0 : 0 ≤ fl) (h1 : fl < 256) : Does Try.prog 18 #[.agg #[.int .i32 pt, .int .u8 fl, .int .u32 fg, .int .u32 bg]] E [] fun r H' => r = .agg (.int .i32 pt :: rsty fl fg bg).toArray ∧ H' = [] := by
  refine Does.go (args := [.agg #[.int .i32 pt, .int .u8 fl, .int .u32 fg, .int .u32 bg]]) _ _ Try.func18 rfl Try.ntmps18 rfl rfl ?_
  refine Body.seq ?_
  refine Body.region ?_
  refine Ops.s (Stp.box (lk rfl) rfl (fun b1 => ?_)) rfl
  refine Ops.s (Stp.alloc ty49 (fun b2 => ?_)) rfl
  refine Ops.nil ?_
  refine Then.next ?_
  refine Body.seq ?_
  refine Body.draw mixed ?_
  refine AB.u 0 rfl (by decide +kernel) (Dtu.fld fa39_0 (lk rfl)) rfl ?_
  refine AB.d 1 rfl (by decide +kernel) rfl (Det.ld Try.isAgg21 (lk rfl) (Rd.ow 1 rfl rfl)) rfl ?_
  refine AB.u 2 rfl (by decide +kernel) (Dtu.fld fa39_1 (lk rfl)) rfl ?_
  refine AB.d 3 rfl (by decide +kernel) rfl (Det.lda Try.isAgg37 Try.sizeOf37 (lk rfl) (Rds.ow (m := 3) 1 rfl rfl) rfl) rfl ?_
  refine AB.s 4 rfl (by decide +kernel) (by decide +kernel) (Stp.call rfl Try.call81 (lks rfl) (fun E' le hat => as16_ok E' _ _ _ (by first | assumption | omega) (by first | assumption | omega)) ?_) rfl
  rintro _ _ ⟨rfl, rfl⟩
  refine AB.u 5 rfl (by decide +kernel) (Dtu.build ty49 pl49 (lkp rfl) rfl rfl) rfl ?_
  refine AB.e 6 rfl (by decide +kernel) (by decide +kernel) (Stp.store 0 Try.sizeOf49 (lk rfl) (lk rfl) rfl rfl rfl rfl rfl rfl rfl ?_)
  refine AB.done (by decide +kernel) ?_
  refine Then.next ?_
  refine Body.ret ?_
  exact ⟨.inr rfl, _, Loads.agg Try.isAgg49 Try.sizeOf49 (Rds.ow (m := 11) 0 rfl rfl) rfl, _, pk [] rfl, rfl, rfl⟩
end Go.Proofs.Ytpmapedhigjalaa
end
section
/- From a contract to the statement's conclusion: a call that writes nothing of what was there, and returns true. -/
namespace Go.Proofs.Ytpmapedhigjalaa
set_option linter.unusedVariables false
open Go.Sx Go.ChangeShapes Go.RowKit Go.WideShapes Go.ChangeAt

theorem below_of_St {W W' : World} {H : List HProp} (s : St (envOf W) H W') : Below W.heap.size W W' where
  os := s.os
  tape := s.tape
  output := s.output
  block := fun k hk => by
    have h : W.heap[k]? = some W.heap[k] := Array.getElem?_eq_getElem hk
    have := s.keep k _ h
    rw [h]; exact this
  size := by
    by_cases h0 : W.heap.size = 0
    · omega
    · have hk : W.heap.size - 1 < W.heap.size := by omega
      have h : W.heap[W.heap.size - 1]? = some W.heap[W.heap.size - 1] := Array.getElem?_eq_getElem hk
      have h2 : W'.heap[W.heap.size - 1]? = some W.heap[W.heap.size - 1] := s.keep _ _ h
      have := (Array.getElem?_eq_some_iff.1 h2).1
      omega
section
variable {H : Type} {enc : TypeId × Value → H} {P : Program}
theorem trodAll_below (hl : laidOutB P = true) {W W' : World} (hb : Below W.heap.size W W') (sp : Nat → Bool) : ∀ {ts : List TypeId} {vs : List Value} {ds : List (DataW H)} {ps : List MemPlace},
    (∀ t ∈ ts, P.readableRec t = true ∧ t < P.types.size) → DataW.TrodAll enc P W 0 (fun _ => true) true ts vs ds ps → (∀ x ∈ ps, x.block < W.heap.size) → (∀ x ∈ ps, sp x.block = true) → DataW.TrodAll enc P W' 0 sp true ts vs ds ps
  | [], [], [], _, _, h, _, _ => h
  | t :: _, _ :: _, _ :: _, _, ht, ⟨p, q, h1, h2, e⟩, hlt, hs =>
    ⟨p, q, WideElems.Trod_stays hl (ht t (by simp)).1 (ht t (by simp)).2 h1 (fun x hx => hb.same (hlt x (by rw [e]; exact List.mem_append_left _ hx))) (fun x hx => hs x (by rw [e]; exact List.mem_append_left _ hx)),
      trodAll_below hl hb sp (fun t' ht' => ht t' (List.mem_cons_of_mem _ ht')) h2 (fun x hx => hlt x (by rw [e]; exact List.mem_append_right _ hx)) (fun x hx => hs x (by rw [e]; exact List.mem_append_right _ hx)), e⟩
theorem post_of_below {f : Func} {s : ChangeSpec} {apart fresh handsOn : Bool} {W W' : World} {args : Array Value} {ds gs : List (DataW H)} {before : List MemPlace} {tb : TypeId}
    (hvars : s.vars = []) (hfn : s.fn H ds = { results := [.lit (.bool true)], args := ds }) (hres : f.resultTypes = #[tb]) (hub : P.underlying tb = some .bool)
    (hl : laidOutB P = true) (hpar : ∀ t ∈ f.params.toList, P.readableRec t = true ∧ t < P.types.size)
    (hW : DataW.Whole enc P f.params.toList s.vars apart W args.toList ds gs before) (hb : Below W.heap.size W W') : s.post enc P f apart fresh handsOn false W args (.bool true) W' := by
  have hlt : ∀ x ∈ before, x.block < W.heap.size := fun x hx => by simpa using hW.lt x hx
  have hW' := hW
  obtain ⟨p, q, hA, hV, rfl, _, _⟩ := hW
  rw [hvars] at hV
  obtain ⟨rfl, rfl⟩ := trodVars_none hV
  rw [List.append_nil] at hW' hlt
  refine ⟨ds, [], p, [], p, [], hW', ?_, ?_, ?_, hb.frame _, fun h => by cases h⟩
  · rw [List.append_nil, hfn, hres]
    exact trodAll_cons_mk (shut_bool hub _) trodAll_mk0
  · rw [List.append_nil, hfn]
    exact trodAll_below hl hb _ hpar hA hlt (fun x hx => by simpa using hlt x hx)
  · rw [List.append_nil, hfn, hvars]; exact rfl
end
end Go.Proofs.Ytpmapedhigjalaa
end
section
/- What a cell and a call are that come in. -/
namespace Go.Proofs.Ytpmapedhigjalaa
set_option maxRecDepth 100000
set_option linter.unusedVariables false
set_option linter.unusedSimpArgs false
open Go.Sx Go.ChangeShapes Go.RowKit

structure GOp where
  k : Int
  a : Int
  b : Int
  n : Int
  c : Cell
  deriving Inhabited
def GOp.enc (o : GOp) : List Value := [.int .i64 o.k, .int .i64 o.a, .int .i64 o.b, .int .i64 o.n, .int .i32 o.c.pt, .int .u8 o.c.fl, .int .u32 o.c.fg, .int .u32 o.c.bg]
section
variable {H : Type} {enc : TypeId × Value → H} {W : World} {base : Nat} {sp : Nat → Bool} {held : Bool} {fuel : Nat} {cs : List Value} {x : DataW H × List MemPlace}
theorem fldT {P : Program} {t : TypeId} {fs : Array Field} (ht : P.underlying t = some (.struct fs)) (h : DataW.trod enc P W base sp held fuel t cs = some x) (i : Nat) (t' off c : Nat) {f : Field} (hi : fs[i]? = some f) (e1 : f.type = t') (e2 : f.offset = off) (e3 : P.cellsOf t' = c) :
    ∃ n y, DataW.trod enc P W base sp held n t' ((cs.drop off).take c) = some y := by
  subst e1 e2 e3
  obtain ⟨xs, n, _, _, _, hl, hf⟩ := DataW.trod_struct ht h
  have hlt : i < xs.length := by rw [hl]; exact (Array.getElem?_eq_some_iff.1 hi).1
  exact ⟨n, xs[i], by rw [hf i f hi, List.getElem?_eq_getElem hlt]⟩
theorem lenT {P : Program} {t : TypeId} {fs : Array Field} (ht : P.underlying t = some (.struct fs)) (h : DataW.trod enc P W base sp held fuel t cs = some x) : cs.length = P.cellsOf t := by
  obtain ⟨xs, n, _, _, hc, _, _⟩ := DataW.trod_struct ht h
  exact hc
theorem cells1_21 : Try.prog.cellsOf 21 = 1 := by kernel_rfl
theorem cells1_5 : Try.prog.cellsOf 5 = 1 := by kernel_rfl
theorem cells1_35 : Try.prog.cellsOf 35 = 1 := by kernel_rfl
theorem cells1_3 : Try.prog.cellsOf 3 = 1 := by kernel_rfl
theorem cells3_37 : Try.prog.cellsOf 37 = 3 := by kernel_rfl
theorem cells4_39 : Try.prog.cellsOf 39 = 4 := by kernel_rfl
def Cell.In32 (c : Cell) : Prop := c.In ∧ -2147483648 ≤ c.pt ∧ c.pt ≤ 2147483647
theorem trod_cell (h : DataW.trod enc Try.prog W base sp held fuel 39 cs = some x) : ∃ c : Cell, cs = c.enc ∧ c.In32 := by
  have hl := lenT Try.underlying39 h
  rw [cells4_39] at hl
  match cs, hl with
  | [v0, v1, v2, v3], _ =>
    obtain ⟨n0, y0, h0⟩ := fldT Try.underlying39 h 0 21 0 1 rfl rfl rfl cells1_21
    obtain ⟨n1, y1, h1⟩ := fldT Try.underlying39 h 1 37 1 3 rfl rfl rfl cells3_37
    obtain ⟨a0, e0, _, w0⟩ := DataW.trod_int Try.underlying21 h0
    obtain ⟨n2, y2, h2⟩ := fldT Try.underlying37 h1 0 5 0 1 rfl rfl rfl cells1_5
    obtain ⟨n3, y3, h3⟩ := fldT Try.underlying37 h1 1 35 1 1 rfl rfl rfl cells1_35
    obtain ⟨n4, y4, h4⟩ := fldT Try.underlying37 h1 2 35 2 1 rfl rfl rfl cells1_35
    obtain ⟨a1, e1, _, w1⟩ := DataW.trod_int Try.underlying5 h2
    obtain ⟨a2, e2, _, w2⟩ := DataW.trod_int Try.underlying35 h3
    obtain ⟨a3, e3, _, w3⟩ := DataW.trod_int Try.underlying35 h4
    simp at e0 e1 e2 e3
    subst e0 e1 e2 e3
    have b0 := bounds_i32 w0
    have b1 := bounds_u8 w1
    have b2 := bounds_u32 w2
    have b3 := bounds_u32 w3
    exact ⟨⟨a0, a1, a2, a3⟩, rfl, ⟨by dsimp only; omega, by dsimp only; omega, by dsimp only; omega, by dsimp only; omega, by dsimp only; omega, by dsimp only; omega⟩, b0.1, b0.2⟩
theorem cells8_op : Try.prog.cellsOf 41 = 8 := by kernel_rfl
theorem trod_op (h : DataW.trod enc Try.prog W base sp held fuel 41 cs = some x) : ∃ o : GOp, cs = o.enc ∧ o.c.In32 := by
  have hl := lenT Try.underlying41 h
  rw [cells8_op] at hl
  match cs, hl with
  | [v0, v1, v2, v3, v4, v5, v6, v7], _ =>
    obtain ⟨n0, y0, h0⟩ := fldT Try.underlying41 h 0 3 0 1 rfl rfl rfl cells1_3
    obtain ⟨n1, y1, h1⟩ := fldT Try.underlying41 h 1 3 1 1 rfl rfl rfl cells1_3
    obtain ⟨n2, y2, h2⟩ := fldT Try.underlying41 h 2 3 2 1 rfl rfl rfl cells1_3
    obtain ⟨n3, y3, h3⟩ := fldT Try.underlying41 h 3 3 3 1 rfl rfl rfl cells1_3
    obtain ⟨n4, y4, h4⟩ := fldT Try.underlying41 h 4 39 4 4 rfl rfl rfl cells4_39
    obtain ⟨a0, e0, _, w0⟩ := DataW.trod_int Try.underlying3 h0
    obtain ⟨a1, e1, _, w1⟩ := DataW.trod_int Try.underlying3 h1
    obtain ⟨a2, e2, _, w2⟩ := DataW.trod_int Try.underlying3 h2
    obtain ⟨a3, e3, _, w3⟩ := DataW.trod_int Try.underlying3 h3
    obtain ⟨c, e4, hc⟩ := trod_cell h4
    simp [Cell.enc] at e0 e1 e2 e3 e4
    obtain ⟨e4, e5, e6, e7⟩ := e4
    subst e0 e1 e2 e3 e4 e5 e6 e7
    exact ⟨⟨a0, a1, a2, a3, c⟩, rfl, hc⟩
open Go.WideShapes in
theorem open_op {b0 : Nat} {v0 : Value} {d : DataW H} {p : List MemPlace} (hval : Value.okWide Try.prog W .any b0 41 v0) (h0 : DataW.Trod enc Try.prog W 0 (fun _ => true) true 41 v0 d p) :
    ∃ (o : GOp), v0 = .agg o.enc.toArray ∧ o.c.In32 := by
  obtain ⟨cs, rfl, _⟩ := okWide_struct Try.underlying41 hval
  obtain ⟨n, h⟩ := h0
  have e : (Value.agg cs).cells.toList = cs.toList := rfl
  rw [e] at h
  obtain ⟨c, hc, hi⟩ := trod_op h
  refine ⟨c, ?_, hi⟩
  rw [← hc]
end
end Go.Proofs.Ytpmapedhigjalaa
end
section
/- The library's functions on slices, at this seat's types. -/
namespace Go.Proofs.Ytpmapedhigjalaa
set_option maxRecDepth 100000
set_option linter.unusedVariables false
set_option linter.unusedSimpArgs false
open Go.Sx

/-- slices.Clone at one type -/
theorem cloneC_ok (E : Env) (v : Value) (m : Nat) (vs : List Value) (h : Sl E [] 4 v m vs) (h1 : vs.all (·.oneCell') = true) (hb : m * 16 ≤ 140737488355328) : Does Try.prog 84 #[v] E [] fun r H' => H' = [osl 39 4 r m vs] ∧ IsSl r := by
  refine Does.go (args := [v]) _ _ Try.func84 rfl Try.ntmps84 rfl rfl ?_
  refine Body.seq ?_
  refine Body.region ?_
  refine Ops.u (Dtu.asg (lk rfl)) rfl ?_
  refine Ops.nil ?_
  refine Then.next ?_
  refine Body.seq ?_
  refine Body.seq ?_
  refine Body.region ?_
  refine Ops.u (Dtu.mv (lk rfl)) rfl ?_
  refine Ops.u (Dtu.nilS Try.underlying62 (Sl.up h) (lk rfl)) rfl ?_
  refine Ops.nil ?_
  refine Then.next ?_
  refine Body.cond (lk rfl) (fun c4 => ?_) (fun c4 => ?_)
  · refine Body.pure (h.nil0 c4) ?_
    rintro ⟨rfl, rfl⟩
    refine Body.seq ?_
    refine Body.region ?_
    refine Ops.u (Dtu.asg (lk rfl)) rfl ?_
    refine Ops.nil ?_
    refine Then.next ?_
    refine Body.ret ?_
    refine Then.ret ?_
    exact ⟨.inr rfl, _, fun w s => osl_nil (pk [] rfl w s), rfl, ⟨_, _, _, rfl⟩⟩
  · refine Body.pure h.len ?_
    rintro ⟨hl, hm⟩
    refine Body.skip ?_
    refine Then.next ?_
    refine Body.seq ?_
    refine Body.region ?_
    refine Ops.s (Stp.buildSlice0 Try.underlying62 ty39 (fun b5 => ?_)) rfl
    refine Ops.u (Dtu.mv (lk rfl)) rfl ?_
    refine Ops.s (Stp.appendNew Try.underlying62 ty39 rfl (lk rfl) (lk rfl) h.up h1 hb hm (fun v7 => ?_)) rfl
    refine Ops.pure (Sl.isSl (Sl.osl 0 rfl)) fun hsl => ?_
    refine Ops.u (Dtu.asg (lk rfl)) rfl ?_
    refine Ops.nil ?_
    refine Then.next ?_
    refine Body.ret ?_
    exact ⟨.inr rfl, _, pk [0] rfl, rfl, hsl⟩

theorem and_mask {a : Int} (h0 : 0 ≤ a) (h1 : a < 4294967296) : ibit .and .u64 a 4294967295 = a := by
  obtain ⟨n, rfl⟩ := Int.eq_ofNat_of_zero_le h0
  have e1 : BitVec.ofInt IntKind.u64.bits (n : Int) = BitVec.ofNat IntKind.u64.bits n := by rw [← BitVec.ofInt_natCast]
  have e2 : BitVec.ofInt IntKind.u64.bits (4294967295 : Int) = BitVec.ofNat IntKind.u64.bits 4294967295 := rfl
  simp only [ibit, e1, e2, BitVec.toNat_and, BitVec.toNat_ofNat]
  rw [Nat.mod_eq_of_lt (by simp [IntKind.bits]; omega), Nat.mod_eq_of_lt (by simp [IntKind.bits])]
  have : (4294967295 : Nat) = 2 ^ 32 - 1 := by decide
  rw [this, Nat.and_two_pow_sub_one_eq_mod, Nat.mod_eq_of_lt (by omega)]
  exact wu64 (by omega) (by omega)
theorem shr_32 {a : Int} (h0 : 0 ≤ a) : a.fdiv (2 ^ (min (32 : Int).toNat IntKind.u64.bits)) = a / 4294967296 := by
  have : (2 : Int) ^ (min (32 : Int).toNat IntKind.u64.bits) = 4294967296 := by decide
  rw [this, Int.fdiv_eq_ediv_of_nonneg _ (by omega)]
theorem mul64_ok (E : Env) (x y : Int) (hx : 0 ≤ x ∧ x < 4294967296) (hy : 0 ≤ y ∧ y < 4294967296) : Does Try.prog 123 #[.int .u64 x, .int .u64 y] E [] fun r H' => r = .tuple #[.int .u64 0, .int .u64 (x * y)] ∧ H' = [] := by
  have hxy : 0 ≤ x * y := Int.mul_nonneg hx.1 hy.1
  have hxy2 : x * y < 18446744073709551616 := by
    have : x * y ≤ 4294967295 * 4294967295 := Int.mul_le_mul (by omega) (by omega) hy.1 (by omega)
    omega
  have a1 := and_mask hx.1 hx.2
  have a2 := and_mask hy.1 hy.2
  have s1 : x.fdiv (2 ^ (min (32 : Int).toNat IntKind.u64.bits)) = 0 := by rw [shr_32 hx.1]; omega
  have s2 : y.fdiv (2 ^ (min (32 : Int).toNat IntKind.u64.bits)) = 0 := by rw [shr_32 hy.1]; omega
  have m1 := wu64 hxy (by omega)
  have z1 : IntKind.u64.wrap (0 * y) = 0 := by rw [Int.zero_mul]; rfl
  have z2 : IntKind.u64.wrap (x * 0) = 0 := by rw [Int.mul_zero]; rfl
  have z3 : IntKind.u64.wrap (0 * 0) = 0 := rfl
  have s3 : (x * y).fdiv (2 ^ (min (32 : Int).toNat IntKind.u64.bits)) = x * y / 4294967296 := shr_32 hxy
  have z4 : IntKind.u64.wrap (0 + x * y / 4294967296) = x * y / 4294967296 := by rw [Int.zero_add]; exact wu64 (by omega) (by omega)
  have a3 := and_mask (a := x * y / 4294967296) (by omega) (by omega)
  have s4 : (x * y / 4294967296).fdiv (2 ^ (min (32 : Int).toNat IntKind.u64.bits)) = 0 := by rw [shr_32 (by omega)]; omega
  have z5 : IntKind.u64.wrap (x * y / 4294967296 + 0) = x * y / 4294967296 := by rw [Int.add_zero]; exact wu64 (by omega) (by omega)
  have z6 : IntKind.u64.wrap (0 + 0) = 0 := rfl
  refine Does.go (args := [.int .u64 x, .int .u64 y]) _ _ Try.func123 rfl Try.ntmps123 rfl rfl ?_
  refine Body.seq ?_
  refine Body.region ?_
  refine Ops.u (Dtu.asg (lk rfl)) rfl ?_
  refine Ops.u (Dtu.asg (lk rfl)) rfl ?_
  refine Ops.nil ?_
  refine Then.next ?_
  refine Body.seq ?_
  refine Body.region ?_
  refine Ops.u (Dtu.mv (lk rfl)) rfl ?_
  refine Ops.u (Dtu.bit rfl (lk rfl) (lk rfl) (by with_reducible assumption)) rfl ?_
  refine Ops.u (Dtu.asg (lk rfl)) rfl ?_
  refine Ops.nil ?_
  refine Then.next ?_
  refine Body.seq ?_
  refine Body.region ?_
  refine Ops.u (Dtu.mv (lk rfl)) rfl ?_
  refine Ops.u (Dtu.shr (lk rfl) (lk rfl) (by first | decide | omega) (by with_reducible assumption)) rfl ?_
  refine Ops.u (Dtu.asg (lk rfl)) rfl ?_
  refine Ops.nil ?_
  refine Then.next ?_
  refine Body.seq ?_
  refine Body.region ?_
  refine Ops.u (Dtu.mv (lk rfl)) rfl ?_
  refine Ops.u (Dtu.bit rfl (lk rfl) (lk rfl) (by with_reducible assumption)) rfl ?_
  refine Ops.u (Dtu.asg (lk rfl)) rfl ?_
  refine Ops.nil ?_
  refine Then.next ?_
  refine Body.seq ?_
  refine Body.region ?_
  refine Ops.u (Dtu.mv (lk rfl)) rfl ?_
  refine Ops.u (Dtu.shr (lk rfl) (lk rfl) (by first | decide | omega) (by with_reducible assumption)) rfl ?_
  refine Ops.u (Dtu.asg (lk rfl)) rfl ?_
  refine Ops.nil ?_
  refine Then.next ?_
  refine Body.seq ?_
  refine Body.region ?_
  refine Ops.u (Dtu.mv (lk rfl)) rfl ?_
  refine Ops.u (Dtu.mv (lk rfl)) rfl ?_
  refine Ops.u (Dtu.mul (lk rfl) (lk rfl) (by with_reducible assumption)) rfl ?_
  refine Ops.u (Dtu.asg (lk rfl)) rfl ?_
  refine Ops.nil ?_
  refine Then.next ?_
  refine Body.seq ?_
  refine Body.region ?_
  refine Ops.u (Dtu.mv (lk rfl)) rfl ?_
  refine Ops.u (Dtu.mv (lk rfl)) rfl ?_
  refine Ops.u (Dtu.mul (lk rfl) (lk rfl) (by with_reducible assumption)) rfl ?_
  refine Ops.u (Dtu.mv (lk rfl)) rfl ?_
  refine Ops.u (Dtu.shr (lk rfl) (lk rfl) (by first | decide | omega) (by with_reducible assumption)) rfl ?_
  refine Ops.u (Dtu.add (lk rfl) (lk rfl) (by with_reducible assumption)) rfl ?_
  refine Ops.u (Dtu.asg (lk rfl)) rfl ?_
  refine Ops.nil ?_
  refine Then.next ?_
  refine Body.seq ?_
  refine Body.region ?_
  refine Ops.u (Dtu.mv (lk rfl)) rfl ?_
  refine Ops.u (Dtu.bit rfl (lk rfl) (lk rfl) (by with_reducible assumption)) rfl ?_
  refine Ops.u (Dtu.asg (lk rfl)) rfl ?_
  refine Ops.nil ?_
  refine Then.next ?_
  refine Body.seq ?_
  refine Body.region ?_
  refine Ops.u (Dtu.mv (lk rfl)) rfl ?_
  refine Ops.u (Dtu.shr (lk rfl) (lk rfl) (by first | decide | omega) (by with_reducible assumption)) rfl ?_
  refine Ops.u (Dtu.asg (lk rfl)) rfl ?_
  refine Ops.nil ?_
  refine Then.next ?_
  refine Body.seq ?_
  refine Body.region ?_
  refine Ops.u (Dtu.mv (lk rfl)) rfl ?_
  refine Ops.u (Dtu.mv (lk rfl)) rfl ?_
  refine Ops.u (Dtu.mv (lk rfl)) rfl ?_
  refine Ops.u (Dtu.mul (lk rfl) (lk rfl) (by with_reducible assumption)) rfl ?_
  refine Ops.u (Dtu.add (lk rfl) (lk rfl) (by with_reducible assumption)) rfl ?_
  refine Ops.u (Dtu.asg (lk rfl)) rfl ?_
  refine Ops.nil ?_
  refine Then.next ?_
  refine Body.seq ?_
  refine Body.region ?_
  refine Ops.u (Dtu.mv (lk rfl)) rfl ?_
  refine Ops.u (Dtu.mv (lk rfl)) rfl ?_
  refine Ops.u (Dtu.mul (lk rfl) (lk rfl) (by with_reducible assumption)) rfl ?_
  refine Ops.u (Dtu.mv (lk rfl)) rfl ?_
  refine Ops.u (Dtu.add (lk rfl) (lk rfl) (by with_reducible assumption)) rfl ?_
  refine Ops.u (Dtu.mv (lk rfl)) rfl ?_
  refine Ops.u (Dtu.shr (lk rfl) (lk rfl) (by first | decide | omega) (by with_reducible assumption)) rfl ?_
  refine Ops.u (Dtu.add (lk rfl) (lk rfl) (by with_reducible assumption)) rfl ?_
  refine Ops.u (Dtu.asg (lk rfl)) rfl ?_
  refine Ops.nil ?_
  refine Then.next ?_
  refine Body.seq ?_
  refine Body.region ?_
  refine Ops.u (Dtu.mv (lk rfl)) rfl ?_
  refine Ops.u (Dtu.mv (lk rfl)) rfl ?_
  refine Ops.u (Dtu.mul (lk rfl) (lk rfl) (by with_reducible assumption)) rfl ?_
  refine Ops.u (Dtu.asg (lk rfl)) rfl ?_
  refine Ops.nil ?_
  refine Then.next ?_
  refine Body.ret ?_
  exact ⟨.inr rfl, _, pk [] rfl, rfl, rfl⟩
theorem mul_ok (E : Env) (x y : Int) (hx : 0 ≤ x ∧ x < 4294967296) (hy : 0 ≤ y ∧ y < 4294967296) : Does Try.prog 115 #[.int .u64 x, .int .u64 y] E [] fun r H' => r = .tuple #[.int .u64 0, .int .u64 (x * y)] ∧ H' = [] := by
  have hxy : 0 ≤ x * y := Int.mul_nonneg hx.1 hy.1
  have hxy2 : x * y < 18446744073709551616 := by
    have : x * y ≤ 4294967295 * 4294967295 := Int.mul_le_mul (by omega) (by omega) hy.1 (by omega)
    omega
  refine Does.go (args := [.int .u64 x, .int .u64 y]) _ _ Try.func115 rfl Try.ntmps115 rfl rfl ?_
  refine Body.seq ?_
  refine Body.region ?_
  refine Ops.u (Dtu.asg (lk rfl)) rfl ?_
  refine Ops.u (Dtu.asg (lk rfl)) rfl ?_
  refine Ops.nil ?_
  refine Then.next ?_
  refine Body.seq ?_
  refine Body.condF (lk rfl) ?_
  refine Body.skip ?_
  refine Then.next ?_
  refine Body.seq ?_
  refine Body.region ?_
  refine Ops.u (Dtu.mv (lk rfl)) rfl ?_
  refine Ops.u (Dtu.mv (lk rfl)) rfl ?_
  refine Ops.s (Stp.call rfl Try.call123 (lks rfl) (fun E' le hat => mul64_ok E' _ _ hx hy) ?_) rfl
  rintro _ _ ⟨rfl, rfl⟩
  refine Ops.u (Dtu.mv (lk rfl)) rfl ?_
  refine Ops.u (Dtu.ext (lk rfl) rfl) rfl ?_
  refine Ops.u (Dtu.ext (lk rfl) rfl) rfl ?_
  refine Ops.u (Dtu.asg (lk rfl)) rfl ?_
  refine Ops.u (Dtu.asg (lk rfl)) rfl ?_
  refine Ops.nil ?_
  refine Then.next ?_
  refine Body.seq ?_
  refine Body.region ?_
  refine Ops.u (Dtu.mv (lk rfl)) rfl ?_
  refine Ops.u (Dtu.mv (lk rfl)) rfl ?_
  refine Ops.u (Dtu.asg (lk rfl)) rfl ?_
  refine Ops.u (Dtu.asg (lk rfl)) rfl ?_
  refine Ops.nil ?_
  refine Then.next ?_
  refine Body.ret ?_
  exact ⟨.inr rfl, _, pk [] rfl, rfl, rfl⟩

/-- slices.Repeat of one element -/
def repeatCB (c : List Value) : Bool → List Value
  | true => c
  | false => [.int .i32 0, .int .u8 0, .int .u32 0, .int .u32 0]
theorem repeatC_mix (n k : Nat) (hn : n ≤ k) : (List.replicate n true ++ List.replicate (k - n) false).take n ++ (((List.replicate n true ++ List.replicate (k - n) false).drop 0).take (n - 0)).take (Nat.min (n - 0) (k - n)) ++ (List.replicate n true ++ List.replicate (k - n) false).drop (n + Nat.min (n - 0) (k - n)) =
    List.replicate (n + Nat.min n (k - n)) true ++ List.replicate (k - (n + Nat.min n (k - n))) false := by
  have hm : Nat.min n (k - n) ≤ n := Nat.min_le_left _ _
  have hm2 : Nat.min n (k - n) ≤ k - n := Nat.min_le_right _ _
  simp only [Nat.sub_zero, List.drop_zero]
  generalize Nat.min n (k - n) = q at *
  rw [List.take_append_of_le_length (by simp), List.take_of_length_le (by simp), List.take_replicate, Nat.min_eq_left hm, List.drop_append]
  simp only [List.length_replicate, List.drop_replicate]
  rw [show n - (n + q) = 0 by omega, show n + q - n = q by omega, List.replicate_zero, List.nil_append, List.replicate_append_replicate, show k - n - q = k - (n + q) by omega]
theorem repeatC_ok (E : Env) (v : Value) (c : List Value) (k : Nat) (h : Sl E [] 4 v 1 c) (h1 : c.all (·.oneCell') = true) (hk : k < 4294967296) : Does Try.prog 108 #[v, .int .i64 k] E [] fun r H' => H' = [osl 39 4 r k (List.replicate k c).flatten] ∧ IsSl r := by
  refine Does.pure h.len fun hlen => ?_
  have hB : ∀ b, (repeatCB c b).length = 4 := fun b => by cases b <;> simp [repeatCB, hlen.1]
  have hB1 : ∀ b, (repeatCB c b).all (·.oneCell') = true := fun b => match b with
    | true => h1
    | false => rfl
  have h' : Sl E [] 4 v 1 ([true].flatMap (repeatCB c)) := by simpa [repeatCB] using h
  refine Does.go (args := [v, .int .i64 k]) _ _ Try.func108 rfl Try.ntmps108 rfl rfl ?_
  refine Body.seq ?_
  refine Body.region ?_
  refine Ops.u (Dtu.asg (lk rfl)) rfl ?_
  refine Ops.nil ?_
  refine Then.next ?_
  refine Body.seq ?_
  refine Body.seq ?_
  refine Body.region ?_
  refine Ops.u (Dtu.mv (lk rfl)) rfl ?_
  refine Ops.u (Dtu.lss (lk rfl) (lk rfl)) rfl ?_
  refine Ops.nil ?_
  refine Then.next ?_
  refine Body.condP (lk rfl) (fun hy => absurd hy (by first | omega | assumption | decide)) (fun _ => ?_)
  refine Body.skip ?_
  refine Then.next ?_
  refine Body.seq ?_
  refine Body.region ?_
  refine Ops.u (Dtu.mv (lk rfl)) rfl ?_
  refine Ops.u (Dtu.lenS Try.underlying62 (Sl.up h) (lk rfl)) rfl ?_
  refine Ops.u (Dtu.cvt Try.underlying3 Try.underlying177 (lk rfl) (wu64 (by omega) (by omega))) rfl ?_
  refine Ops.u (Dtu.mv (lk rfl)) rfl ?_
  refine Ops.u (Dtu.cvt Try.underlying3 Try.underlying177 (lk rfl) (wu64 (by omega) (by omega))) rfl ?_
  refine Ops.s (Stp.call rfl Try.call115 (lks rfl) (fun E' le hat => (mul_ok E' (↑(1 : Nat)) k (by omega) (by omega)).mono (fun r H' q => by rw [show (↑(1 : Nat) : Int) * (k : Int) = k by omega] at q; exact q)) ?_) rfl
  rintro _ _ ⟨rfl, rfl⟩
  refine Ops.u (Dtu.mv (lk rfl)) rfl ?_
  refine Ops.u (Dtu.ext (lk rfl) rfl) rfl ?_
  refine Ops.u (Dtu.ext (lk rfl) rfl) rfl ?_
  refine Ops.u (Dtu.asg (lk rfl)) rfl ?_
  refine Ops.u (Dtu.asg (lk rfl)) rfl ?_
  refine Ops.nil ?_
  refine Then.next ?_
  refine Body.seq ?_
  refine Body.seq ?_
  refine Body.region ?_
  refine Ops.u (Dtu.mv (lk rfl)) rfl ?_
  refine Ops.u (Dtu.gtr (lk rfl) (lk rfl)) rfl ?_
  refine Ops.u (Dtu.mv (lk rfl)) rfl ?_
  refine Ops.decP 23 rfl (fun hy => absurd hy (by first | omega | assumption | decide)) (fun _ => ?_)
  refine Ops.gu rfl rfl rfl (Dtu.mv (lk rfl)) rfl ?_
  refine Ops.gu rfl rfl rfl (Dtu.gtr (lk rfl) (lk rfl)) rfl ?_
  refine Ops.u (Dtu.pickF (lk rfl) (lk rfl)) rfl ?_
  refine Ops.nil ?_
  refine Then.next ?_
  refine Body.condP (lk rfl) (fun hy => absurd hy (by first | omega | assumption | decide)) (fun _ => ?_)
  refine Body.skip ?_
  refine Then.next ?_
  refine Body.seq ?_
  refine Body.region ?_
  refine Ops.u (Dtu.mv (lk rfl)) rfl ?_
  refine Ops.u (Dtu.cvt Try.underlying177 Try.underlying3 (lk rfl) (w64 (by omega) (by omega))) rfl ?_
  refine Ops.s (Stp.make (m := (k)) Try.underlying62 ty39 rfl (lk rfl) (lk rfl) (by omega) (by omega) (by omega) (fun v30 => ?_)) rfl
  refine Ops.u (Dtu.asg (lk rfl)) rfl ?_
  refine Ops.nil ?_
  refine Then.next ?_
  refine Body.seq ?_
  refine Body.region ?_
  refine Ops.u (Dtu.mv (lk rfl)) rfl ?_
  refine Ops.u (Dtu.mv (lk rfl)) rfl ?_
  rw [show (List.replicate k [.int .i32 0, .int .u8 0, .int .u32 0, .int .u32 0]).flatten = (List.replicate k false).flatMap (repeatCB c) from rep_flat (enc := repeatCB c) false k]
  refine Ops.s (Stp.copyF 0 hB Try.underlying62 Try.sizeOf39 rfl (lk rfl) (LiesIn.whole (Sl.osl 0 rfl)) (by omega) (lk rfl) h'.up hB1 rfl ?_) rfl
  refine Ops.u (Dtu.asg (lk rfl)) rfl ?_
  refine Ops.nil ?_
  refine Then.next ?_
  refine Body.seq ?_
  refine Body.block ?_
  refine Body.loopF (γ := Nat) rfl (fun n => [(8, .int .i64 n)]) (fun n => [osl 39 4 v30 k ((List.replicate n true ++ List.replicate (k - n) false).flatMap (repeatCB c))]) (fun n => n ≤ k ∧ (k = 0 ∨ 1 ≤ n)) (fun n => k - n) (Nat.min 1 k) ?_ ⟨rfl, trivial⟩ ?_ ?_
  · have := Nat.min_le_right 1 k
    refine ⟨this, ?_⟩
    by_cases hk0 : k = 0
    · exact .inl hk0
    · exact .inr (Nat.le_min.2 ⟨Nat.le_refl _, by omega⟩)
  · congr 2
    by_cases hk0 : k = 0
    · subst hk0; rfl
    · have : Nat.min 1 k = 1 := Nat.min_eq_left (by omega)
      rw [this]; simp
  · rintro n u ⟨hn, hn1⟩
    have hs := Sl.subF hB (E := E) (H := [osl 39 4 v30 k ((List.replicate n true ++ List.replicate (k - n) false).flatMap (repeatCB c))]) (Sl.osl 0 rfl) 0 n (by omega) (by omega)
    refine Body.seq ?_
    refine Body.seq ?_
    refine Body.region ?_
    refine Ops.u (Dtu.mv (lk rfl)) rfl ?_
    refine Ops.u (Dtu.mv (lk rfl)) rfl ?_
    refine Ops.u (Dtu.lenS Try.underlying62 (Sl.osl 0 rfl) (lk rfl)) rfl ?_
    refine Ops.u (Dtu.lss (lk rfl) (lk rfl)) rfl ?_
    refine Ops.nil ?_
    refine Then.next ?_
    refine Body.condP (lk rfl) (fun c37 => ?_) (fun c37 => ?_)
    · refine Body.skip ?_
      refine Then.next ?_
      refine Body.block ?_
      refine Body.draw mixed ?_
      refine AB.u 0 rfl (by decide +kernel) (Dtu.mv (lk rfl)) rfl ?_
      refine AB.u 1 rfl (by decide +kernel) (Dtu.mv (lk rfl)) rfl ?_
      refine AB.u 2 rfl (by decide +kernel) (Dtu.mv (lk rfl)) rfl ?_
      refine AB.u 3 rfl (by decide +kernel) (Dtu.slL (n) Try.underlying62 Try.sizeOf39 (Sl.osl 0 rfl) (lk rfl) (lk rfl) (by omega) (by omega)) rfl ?_
      refine AB.u 4 rfl (by decide +kernel) (Dtu.mv (lk rfl)) rfl ?_
      refine AB.u 5 rfl (by decide +kernel) (Dtu.mv (lk rfl)) rfl ?_
      refine AB.u 6 rfl (by decide +kernel) (Dtu.slH (n) Try.underlying62 Try.sizeOf39 (Sl.osl 0 rfl) (lk rfl) (lk rfl) (by omega) (by omega)) rfl ?_
      refine AB.s 7 rfl (by decide +kernel) (by decide +kernel) (Stp.copyF 0 hB Try.underlying62 Try.sizeOf39 rfl (lk rfl) (LiesIn.sub' (Sl.osl 0 rfl) (by omega) (by omega)) (by omega) (lk rfl) hs hB1 rfl ?_) rfl
      have hm : Nat.min (n - 0) (k - n) ≤ k - n := Nat.min_le_right _ _
      have hm2 : 1 ≤ Nat.min (n - 0) (k - n) := Nat.le_min.2 ⟨by omega, by omega⟩
      rw [repeatC_mix n k hn]
      rw [Nat.sub_zero] at *
      generalize Nat.min n (k - n) = q at *
      refine AB.u 8 rfl (by decide +kernel) (Dtu.add (lk rfl) (lk rfl) (w64 (by omega) (by omega))) rfl ?_
      refine AB.u 9 rfl (by decide +kernel) (Dtu.asg (lk rfl)) rfl ?_
      refine AB.done (by decide +kernel) ?_
      refine Blk.norm ?_
      exact Round.goF (n + q) rfl rfl rfl ⟨int_eq (by omega), trivial⟩ rfl ⟨by omega, by omega⟩ (by omega)
    · obtain rfl : n = k := by omega
      refine Body.pure (Sl.isSl (Sl.osl 0 rfl)) fun hsl => ?_
      refine Body.exit ?_
      refine Then.exit ?_
      refine Round.exit ?_
      refine Blk.here ?_
      refine Then.next ?_
      refine Body.seq ?_
      refine Body.region ?_
      refine Ops.u (Dtu.mv (lk rfl)) rfl ?_
      refine Ops.u (Dtu.asg (lk rfl)) rfl ?_
      refine Ops.nil ?_
      refine Then.next ?_
      refine Body.ret ?_
      refine ⟨.inr rfl, _, pk [0] rfl, ?_, hsl⟩
      rw [Nat.sub_self, List.replicate_zero, List.append_nil, ← rep_flat]; rfl

end Go.Proofs.Ytpmapedhigjalaa
end
section
/- A grid: rows as they lie; line, New. -/
namespace Go.Proofs.Ytpmapedhigjalaa
set_option maxRecDepth 100000
set_option linter.unusedVariables false
set_option linter.unusedSimpArgs false
open Go.Sx

def Cell.blank : Cell := ⟨32, 0, 0, 0⟩
structure Row where
  a : Option Addr
  m : Nat
  c : Nat
  cs : List Cell
  deriving Inhabited
abbrev Row.hd (r : Row) : Value := .slice r.a r.m r.c
abbrev Row.own (r : Row) : HProp := osl 39 4 r.hd r.cs.length (r.cs.flatMap Cell.enc)
def Row.hdl (r : Row) : List Value := [.slice r.a r.m r.c]
theorem cell_one (c : Cell) : c.enc.all (·.oneCell') = true := rfl
theorem blank_ok (E : Env) : Does Try.prog 24 #[] E [] fun r H' => r = .agg #[.int .i32 32, .int .u8 0, .int .u32 0, .int .u32 0] ∧ H' = [] := by
  refine Does.go (args := []) _ _ Try.func24 rfl Try.ntmps24 rfl rfl ?_
  refine Body.seq ?_
  refine Body.region ?_
  refine Ops.s (Stp.alloc ty39 (fun b0 => ?_)) rfl
  refine Ops.nil ?_
  refine Then.next ?_
  refine Body.seq ?_
  refine Body.region ?_
  refine Ops.u (Dtu.build ty39 pl39 (lkp rfl) rfl rfl) rfl ?_
  refine Ops.e (Stp.store 0 Try.sizeOf39 (lk rfl) (lk rfl) rfl rfl rfl rfl rfl rfl rfl ?_)
  refine Ops.nil ?_
  refine Then.next ?_
  refine Body.ret ?_
  exact ⟨.inr rfl, _, Loads.agg Try.isAgg39 Try.sizeOf39 (Rds.ow (m := 4) 0 rfl rfl) rfl, _, pk [] rfl, rfl, rfl⟩
def fitsG (rows cols : Int) : Bool := decide (1 ≤ rows ∧ rows ≤ 12 ∧ 1 ≤ cols ∧ cols ≤ 40)
theorem fits_ok (E : Env) (rows cols : Int) : Does Try.prog 73 #[.int .i64 rows, .int .i64 cols] E [] fun r H' => r = .bool (fitsG rows cols) ∧ H' = [] := by
  refine Does.go (args := [.int .i64 rows, .int .i64 cols]) _ _ Try.func73 rfl Try.ntmps73 rfl rfl ?_
  refine Body.seq ?_
  refine Body.region ?_
  refine Ops.u (Dtu.asg (lk rfl)) rfl ?_
  refine Ops.nil ?_
  refine Then.next ?_
  refine Body.seq ?_
  refine Body.region ?_
  refine Ops.u (Dtu.mv (lk rfl)) rfl ?_
  refine Ops.u (Dtu.geq (lk rfl) (lk rfl)) rfl ?_
  refine Ops.u (Dtu.mv (lk rfl)) rfl ?_
  refine Ops.decP 7 rfl (fun c7 => ?_) (fun c7 => ?_)
  · refine Ops.gu rfl rfl rfl (Dtu.mv (lk rfl)) rfl ?_
    refine Ops.gu rfl rfl rfl (Dtu.leq (lk rfl) (lk rfl)) rfl ?_
    refine Ops.u (Dtu.pickT (lk rfl) (lk rfl)) rfl ?_
    refine Ops.u (Dtu.mv (lk rfl)) rfl ?_
    refine Ops.decP 11 rfl (fun c11 => ?_) (fun c11 => ?_)
    · refine Ops.gu rfl rfl rfl (Dtu.mv (lk rfl)) rfl ?_
      refine Ops.gu rfl rfl rfl (Dtu.geq (lk rfl) (lk rfl)) rfl ?_
      refine Ops.u (Dtu.pickT (lk rfl) (lk rfl)) rfl ?_
      refine Ops.u (Dtu.mv (lk rfl)) rfl ?_
      refine Ops.decP 15 rfl (fun c15 => ?_) (fun c15 => ?_)
      · refine Ops.gu rfl rfl rfl (Dtu.mv (lk rfl)) rfl ?_
        refine Ops.gu rfl rfl rfl (Dtu.leq (lk rfl) (lk rfl)) rfl ?_
        refine Ops.u (Dtu.pickT (lk rfl) (lk rfl)) rfl ?_
        refine Ops.u (Dtu.asg (lk rfl)) rfl ?_
        refine Ops.nil ?_
        refine Then.next ?_
        refine Body.ret ?_
        (refine ⟨.inr rfl, _, pk [] rfl, bool_eq ?_, rfl⟩; simp [fitsG]; omega)
      · refine Ops.gn rfl rfl rfl rfl rfl ?_
        refine Ops.gn rfl rfl rfl rfl rfl ?_
        refine Ops.u (Dtu.pickF (lk rfl) (lk rfl)) rfl ?_
        refine Ops.u (Dtu.asg (lk rfl)) rfl ?_
        refine Ops.nil ?_
        refine Then.next ?_
        refine Body.ret ?_
        (refine ⟨.inr rfl, _, pk [] rfl, bool_eq ?_, rfl⟩; simp [fitsG]; omega)
    · refine Ops.gn rfl rfl rfl rfl rfl ?_
      refine Ops.gn rfl rfl rfl rfl rfl ?_
      refine Ops.u (Dtu.pickF (lk rfl) (lk rfl)) rfl ?_
      refine Ops.u (Dtu.mv (lk rfl)) rfl ?_
      refine Ops.gn rfl rfl rfl rfl rfl ?_
      refine Ops.gn rfl rfl rfl rfl rfl ?_
      refine Ops.u (Dtu.pickF (lk rfl) (lk rfl)) rfl ?_
      refine Ops.u (Dtu.asg (lk rfl)) rfl ?_
      refine Ops.nil ?_
      refine Then.next ?_
      refine Body.ret ?_
      (refine ⟨.inr rfl, _, pk [] rfl, bool_eq ?_, rfl⟩; simp [fitsG]; omega)
  · refine Ops.gn rfl rfl rfl rfl rfl ?_
    refine Ops.gn rfl rfl rfl rfl rfl ?_
    refine Ops.u (Dtu.pickF (lk rfl) (lk rfl)) rfl ?_
    refine Ops.u (Dtu.mv (lk rfl)) rfl ?_
    refine Ops.gn rfl rfl rfl rfl rfl ?_
    refine Ops.gn rfl rfl rfl rfl rfl ?_
    refine Ops.u (Dtu.pickF (lk rfl) (lk rfl)) rfl ?_
    refine Ops.u (Dtu.mv (lk rfl)) rfl ?_
    refine Ops.gn rfl rfl rfl rfl rfl ?_
    refine Ops.gn rfl rfl rfl rfl rfl ?_
    refine Ops.u (Dtu.pickF (lk rfl) (lk rfl)) rfl ?_
    refine Ops.u (Dtu.asg (lk rfl)) rfl ?_
    refine Ops.nil ?_
    refine Then.next ?_
    refine Body.ret ?_
    (refine ⟨.inr rfl, _, pk [] rfl, bool_eq ?_, rfl⟩; simp [fitsG]; omega)
theorem line_ok (E : Env) (k : Nat) (p f g b : Int) (hk : k ≤ 40) : Does Try.prog 74 #[.int .i64 k, .agg #[.int .i32 p, .int .u8 f, .int .u32 g, .int .u32 b]] E [] fun r H' => ∃ z1 z2 z3, r = .slice z1 z2 z3 ∧ H' = [osl 39 4 (.slice z1 z2 z3) k ((List.replicate k (Cell.mk p f g b)).flatMap Cell.enc)] := by
  refine Does.go (args := [.int .i64 k, .agg #[.int .i32 p, .int .u8 f, .int .u32 g, .int .u32 b]]) _ _ Try.func74 rfl Try.ntmps74 rfl rfl ?_
  refine Body.seq ?_
  refine Body.region ?_
  refine Ops.s (Stp.box (lk rfl) rfl (fun b3 => ?_)) rfl
  refine Ops.u (Dtu.asg (lk rfl)) rfl ?_
  refine Ops.nil ?_
  refine Then.next ?_
  refine Body.seq ?_
  refine Body.region ?_
  refine Ops.d (Det.lda Try.isAgg39 Try.sizeOf39 (lk rfl) (Rds.ow (m := 4) 0 rfl rfl) rfl) rfl ?_
  refine Ops.s (Stp.buildSliceO Try.underlying62 ty39 (by decide) (by decide) (lkp rfl) rfl rfl rfl (by decide) (fun v6 => ?_)) rfl
  refine Ops.u (Dtu.mv (lk rfl)) rfl ?_
  refine Ops.s (Stp.call rfl Try.call108 (lks rfl) (fun E' le hat => repeatC_ok E' _ (Cell.enc ⟨p, f, g, b⟩) k (Sl.at (t := 39) (hat _ (by simp [Cell.enc]))) rfl (by omega)) ?_) rfl
  rintro _ _ ⟨rfl, ⟨z1, z2, z3, rfl⟩⟩
  refine Ops.u (Dtu.asg (lk rfl)) rfl ?_
  refine Ops.nil ?_
  refine Then.next ?_
  refine Body.ret ?_
  exact ⟨.inr rfl, _, pk [0] rfl, z1, z2, z3, rfl, by rw [rep_flat]⟩
theorem osl_of {t : TypeId} {s : Value} {k n : Nat} {vs ws : List Value} (h1 : k = n) (h2 : vs = ws) : osl t 4 s k vs = osl t 4 s n ws := by rw [h1, h2]
def Row.mk' (a : Option Addr) (m c : Nat) (cs : List Cell) : Row := ⟨a, m, c, cs⟩
theorem line_row (E : Env) (cols : Int) (p f g b : Int) (h0 : 0 ≤ cols) (hk : cols ≤ 40) : Does Try.prog 74 #[.int .i64 cols, .agg #[.int .i32 p, .int .u8 f, .int .u32 g, .int .u32 b]] E [] fun r H' => ∃ z : Row, z.cs = List.replicate cols.toNat ⟨p, f, g, b⟩ ∧ r = .slice z.a z.m z.c ∧ H' = [z.own] := by
  obtain ⟨k, rfl⟩ := Int.eq_ofNat_of_zero_le h0
  refine (line_ok E k p f g b (by omega)).mono ?_
  rintro r H' ⟨z1, z2, z3, rfl, rfl⟩
  exact ⟨⟨z1, z2, z3, List.replicate k ⟨p, f, g, b⟩⟩, rfl, rfl, by simp [Row.own, Row.hd]⟩
/-- a grid's memory -/
abbrev gridA (b : Nat) (cols : Int) (a : Option Addr) (m c : Nat) (rs : List Row) : List HProp :=
  [own b [.int .i64 cols, .slice a m c] 61, osl 62 1 (.slice a m c) rs.length (rs.map Row.hd), many (rs.map Row.own)]
theorem many_map_snoc {E : Env} {r : Row} {rs : List Row} {H : List HProp} {w : World} (s : St E (r.own :: many (rs.map Row.own) :: H) w) : St E (many ((rs ++ [r]).map Row.own) :: H) w := by
  simpa using many_snoc s
structure GNew where
  i : Nat
  a : Option Addr
  m : Nat
  c : Nat
  rs : List Row
theorem gnew_ok (E : Env) (rows cols : Int) (hf : fitsG rows cols = true) : Does Try.prog 12 #[.int .i64 rows, .int .i64 cols] E [] fun r H' => ∃ b a c rs, rs.map Row.cs = List.replicate rows.toNat (List.replicate cols.toNat Cell.blank) ∧ r = .tuple #[.pointer (some ⟨b, 0, none⟩), .int .i64 0] ∧ H' = gridA b cols a rs.length c rs := by
  have hb : 1 ≤ rows ∧ rows ≤ 12 ∧ 1 ≤ cols ∧ cols ≤ 40 := by simpa [fitsG] using hf
  refine Does.go (args := [.int .i64 rows, .int .i64 cols]) _ _ Try.func12 rfl Try.ntmps12 rfl rfl ?_
  refine Body.seq ?_
  refine Body.region ?_
  refine Ops.u (Dtu.asg (lk rfl)) rfl ?_
  refine Ops.u (Dtu.asg (lk rfl)) rfl ?_
  refine Ops.nil ?_
  refine Then.next ?_
  refine Body.seq ?_
  refine Body.seq ?_
  refine Body.region ?_
  refine Ops.u (Dtu.mv (lk rfl)) rfl ?_
  refine Ops.u (Dtu.mv (lk rfl)) rfl ?_
  refine Ops.s (Stp.call rfl Try.call73 (lks rfl) (fun E' le hat => fits_ok E' _ _) ?_) rfl
  rintro _ _ ⟨rfl, rfl⟩
  refine Ops.u (Dtu.not (lk rfl)) rfl ?_
  refine Ops.nil ?_
  refine Then.next ?_
  refine Body.cond (lk rfl) (fun hn => absurd hn (by first | (rw [hf]; decide) | simp [hf])) (fun _ => ?_)
  refine Body.skip ?_
  refine Then.next ?_
  refine Body.seq ?_
  refine Body.region ?_
  refine Ops.u (Dtu.mv (lk rfl)) rfl ?_
  refine Ops.u (Dtu.build ty61 pl61 (lkp rfl) rfl rfl) rfl ?_
  refine Ops.s (Stp.box (lk rfl) rfl (fun b13 => ?_)) rfl
  refine Ops.u (Dtu.asg (lk rfl)) rfl ?_
  refine Ops.nil ?_
  refine Then.next ?_
  refine Body.seq ?_
  refine Body.seq ?_
  refine Body.region ?_
  refine Ops.u (Dtu.mv (lk rfl)) rfl ?_
  refine Ops.u (Dtu.mv (lk rfl)) rfl ?_
  refine Ops.nil ?_
  refine Then.next ?_
  refine Body.block ?_
  refine Body.conseq (H' := gridA b13 cols none 0 0 []) (fun w s => by have s2 := osl_nil (t := 62) (sz := 1) (a := none) (many_nil s); exact pk [2, 0, 0] rfl w s2) ?_
  refine Body.loopF (γ := GNew) rfl (fun g => [(15, .int .i64 g.i)]) (fun g => gridA b13 cols g.a g.m g.c g.rs) (fun g => (g.i : Int) ≤ rows ∧ g.rs.map Row.cs = List.replicate g.i (List.replicate cols.toNat Cell.blank)) (fun g => rows.toNat - g.i) ⟨0, none, 0, 0, []⟩ ⟨by dsimp only; omega, rfl⟩ ⟨rfl, trivial⟩ rfl ?_
  rintro ⟨i, a, m, c, rs⟩ u ⟨hi, hr⟩
  dsimp only at hi hr ⊢
  have hl : rs.length = i := by have := congrArg List.length hr; simpa using this
  refine Body.seq ?_
  refine Body.region ?_
  refine Ops.u (Dtu.lss (lk rfl) (lk rfl)) rfl ?_
  refine Ops.nil ?_
  refine Then.next ?_
  refine Body.seq ?_
  refine Body.condP (lk rfl) (fun c16 => ?_) (fun c16 => ?_)
  · refine Body.skip ?_
    refine Then.next ?_
    refine Body.seq ?_
    refine Body.block ?_
    refine Body.draw mixed ?_
    refine AB.u 0 rfl (by decide +kernel) (Dtu.mv (lk rfl)) rfl ?_
    refine AB.u 1 rfl (by decide +kernel) (Dtu.mv (lk rfl)) rfl ?_
    refine AB.u 2 rfl (by decide +kernel) (Dtu.nilck (lk rfl)) rfl ?_
    refine AB.u 3 rfl (by decide +kernel) (Dtu.fld fa61_1 (lk rfl)) rfl ?_
    refine AB.d 4 rfl (by decide +kernel) rfl (Det.ld Try.isAgg59 (lk rfl) (Rd.ow 0 rfl rfl)) rfl ?_
    refine AB.u 5 rfl (by decide +kernel) (Dtu.mv (lk rfl)) rfl ?_
    refine AB.s 6 rfl (by decide +kernel) (by decide +kernel) (Stp.call rfl Try.call24 (lks rfl) (fun E' le hat => blank_ok E') ?_) rfl
    rintro _ _ ⟨rfl, rfl⟩
    refine AB.s 7 rfl (by decide +kernel) (by decide +kernel) (Stp.call rfl Try.call74 (lks rfl) (fun E' le hat => line_row E' _ _ _ _ _ (by omega) (by omega)) ?_) rfl
    rintro _ _ ⟨z24, hz24, rfl, rfl⟩
    refine AB.s 8 rfl (by decide +kernel) (by decide +kernel) (Stp.buildSliceO Try.underlying59 ty62 (by decide) (by decide) (lkp rfl) rfl rfl rfl (by decide) (fun v25 => ?_)) rfl
    refine AB.s 9 rfl (by decide +kernel) (by decide +kernel) (Stp.append 3 Try.underlying59 ty62 rfl rfl (lk rfl) (lk rfl) (Sl.osl 0 rfl) (by first | rfl | exact all_map (fun _ => rfl) _ | exact all_flat (fun _ => rfl) _) (by omega) (by omega) (fun v26 => ?_)) rfl
    refine AB.u 10 rfl (by decide +kernel) (Dtu.nilck (lk rfl)) rfl ?_
    refine AB.u 11 rfl (by decide +kernel) (Dtu.fld fa61_1 (lk rfl)) rfl ?_
    refine AB.pure (Sl.isSl (Sl.osl 3 rfl)) fun hslv26 => ?_
    obtain ⟨v26a, v26m, v26c, rfl⟩ := hslv26
    refine AB.e 12 rfl (by decide +kernel) (by decide +kernel) (Stp.store 2 Try.sizeOf59 (lk rfl) (lk rfl) rfl rfl rfl rfl rfl rfl rfl ?_)
    refine AB.done (by decide +kernel) ?_
    refine Blk.norm ?_
    refine Then.next ?_
    refine Body.region ?_
    refine Ops.u (Dtu.add (lk rfl) (lk rfl) (w64 (by omega) (by omega))) rfl ?_
    refine Ops.u (Dtu.mv (lk rfl)) rfl ?_
    refine Ops.nil ?_
    have hlen : (rs ++ [z24]).length = rs.length + 1 := by simp
    have hfl : (rs ++ [z24]).map Row.hd = rs.map Row.hd ++ [Value.slice z24.a z24.m z24.c] := by simp [Row.hd]
    refine Round.goW ⟨i + 1, v26a, v26m, v26c, rs ++ [z24]⟩ rfl rfl rfl ⟨rfl, trivial⟩ (fun w s => ?_) ⟨by dsimp only; omega, ?_⟩ (by dsimp only; omega)
    · dsimp only
      unfold gridA
      rw [hlen, hfl]
      exact pk [1, 1, 0] rfl w (many_map_snoc (pk [1, 3, 1, 1] rfl w s))
    · dsimp only
      rw [List.map_append, hr, List.map_cons, List.map_nil, hz24, List.replicate_succ']; rfl
  · refine Body.pure (Sl.litLen (Sl.osl (t := 62) 1 rfl)) fun hm => ?_
    subst hm
    refine Body.exit ?_
    refine Then.exit ?_
    refine Round.exit ?_
    refine Blk.here ?_
    refine Then.next ?_
    refine Body.seq ?_
    refine Body.region ?_
    refine Ops.u (Dtu.mv (lk rfl)) rfl ?_
    refine Ops.u (Dtu.asg (lk rfl)) rfl ?_
    refine Ops.u (Dtu.asg (lk rfl)) rfl ?_
    refine Ops.nil ?_
    refine Then.next ?_
    refine Body.ret ?_
    have hir : i = rows.toNat := by omega
    exact ⟨.inr rfl, _, pk [0, 0, 0] rfl, b13, a, c, rs, by rw [hr, hir], rfl, rfl⟩
theorem gnew_no (E : Env) (rows cols : Int) (hf : fitsG rows cols = false) : Does Try.prog 12 #[.int .i64 rows, .int .i64 cols] E [] fun r H' => r = .tuple #[.pointer none, .int .i64 1] ∧ H' = [] := by
  refine Does.go (args := [.int .i64 rows, .int .i64 cols]) _ _ Try.func12 rfl Try.ntmps12 rfl rfl ?_
  refine Body.seq ?_
  refine Body.region ?_
  refine Ops.u (Dtu.asg (lk rfl)) rfl ?_
  refine Ops.u (Dtu.asg (lk rfl)) rfl ?_
  refine Ops.nil ?_
  refine Then.next ?_
  refine Body.seq ?_
  refine Body.seq ?_
  refine Body.region ?_
  refine Ops.u (Dtu.mv (lk rfl)) rfl ?_
  refine Ops.u (Dtu.mv (lk rfl)) rfl ?_
  refine Ops.s (Stp.call rfl Try.call73 (lks rfl) (fun E' le hat => fits_ok E' _ _) ?_) rfl
  rintro _ _ ⟨rfl, rfl⟩
  refine Ops.u (Dtu.not (lk rfl)) rfl ?_
  refine Ops.nil ?_
  refine Then.next ?_
  refine Body.cond (lk rfl) (fun _ => ?_) (fun hn => absurd hn (by first | (rw [hf]; decide) | simp [hf]))
  refine Body.seq ?_
  refine Body.region ?_
  refine Ops.u (Dtu.asg (lk rfl)) rfl ?_
  refine Ops.u (Dtu.asg (lk rfl)) rfl ?_
  refine Ops.nil ?_
  refine Then.next ?_
  refine Body.ret ?_
  refine Then.ret ?_
  exact ⟨.inr rfl, _, pk [] rfl, rfl, rfl⟩
end Go.Proofs.Ytpmapedhigjalaa
end
section
/- A grid: what is asked of it; a row taken out of all rows. -/
namespace Go.Proofs.Ytpmapedhigjalaa
set_option maxRecDepth 100000
set_option linter.unusedVariables false
set_option linter.unusedSimpArgs false
open Go.Sx

theorem erase_perm {α : Type} : ∀ (L : List α) (j : Nat) (h : j < L.length), L.Perm (L[j] :: L.eraseIdx j)
  | x :: L, 0, _ => by simp
  | x :: L, j + 1, h => by
    have := erase_perm L j (by simpa using h)
    simp only [List.getElem_cons_succ, List.eraseIdx_cons_succ]
    exact (this.cons x).trans (List.Perm.swap _ _ _)
theorem set_perm {α : Type} (y : α) : ∀ (L : List α) (j : Nat) (h : j < L.length), (L.set j y).Perm (y :: L.eraseIdx j)
  | x :: L, 0, _ => by simp
  | x :: L, j + 1, h => by
    have := set_perm y L j (by simpa using h)
    simp only [List.set_cons_succ, List.eraseIdx_cons_succ]
    exact (this.cons x).trans (List.Perm.swap _ _ _)
theorem many_perm {E : Env} {L M H : List HProp} {w : World} (p : L.Perm M) (s : St E (many L :: H) w) : St E (many M :: H) w :=
  many_iff.2 ((many_iff.1 s).perm (p.append_right H))
theorem many_cons {E : Env} {A : HProp} {L H : List HProp} {w : World} : St E (many (A :: L) :: H) w ↔ St E (A :: many L :: H) w := by
  rw [many_iff]
  constructor
  · intro s
    have s1 : St E (L ++ (A :: H)) w := s.perm List.perm_middle.symm
    exact (many_iff.2 s1).perm (List.Perm.swap _ _ _)
  · intro s
    have s1 := many_iff.1 (s.perm (List.Perm.swap _ _ _))
    exact s1.perm List.perm_middle
theorem rows_take {E : Env} {rs : List Row} {H : List HProp} {w : World} (j : Nat) (hj : j < rs.length) (s : St E (many (rs.map Row.own) :: H) w) : St E ((rs[j]!).own :: many ((rs.eraseIdx j).map Row.own) :: H) w := by
  have p := (erase_perm rs j hj).map Row.own
  have := many_cons.1 (many_perm (by simpa using p) s)
  rw [getElem!_pos rs j hj]
  exact this
theorem rows_put {E : Env} {rs : List Row} {H : List HProp} {w : World} (j : Nat) (hj : j < rs.length) (r : Row) (s : St E (r.own :: many ((rs.eraseIdx j).map Row.own) :: H) w) : St E (many ((rs.set j r).map Row.own) :: H) w := by
  have p := (set_perm r rs j hj).map Row.own
  exact many_perm (by simpa using p.symm) (many_cons.2 s)
theorem set_same (rs : List Row) (j : Nat) (hj : j < rs.length) : rs.set j rs[j]! = rs := by
  rw [getElem!_pos rs j hj, List.set_getElem_self]
theorem i64_eq {a b : Int} (h : a = b) : Value.int .i64 a = .int .i64 b := by rw [h]
/-- a row's cells are others -/
def setC (rs : List Row) (j : Nat) (cs : List Cell) : List Row := rs.set j ⟨rs[j]!.a, rs[j]!.m, rs[j]!.c, cs⟩
theorem setC_hd {rs : List Row} {j : Nat} (hj : j < rs.length) (cs : List Cell) : (setC rs j cs).map Row.hd = rs.map Row.hd := by
  unfold setC
  rw [List.map_set, getElem!_pos rs j hj]
  refine List.ext_getElem (by simp) fun i h1 h2 => ?_
  rw [List.getElem_set]
  split
  · rename_i e; subst e; simp [Row.hd]
  · rfl
theorem setC_len {rs : List Row} {j : Nat} (cs : List Cell) : (setC rs j cs).length = rs.length := by simp [setC]
theorem setC_cs {rs : List Row} {j : Nat} (cs : List Cell) : (setC rs j cs).map Row.cs = (rs.map Row.cs).set j cs := by simp [setC, List.map_set]
theorem setC_same {rs : List Row} {j : Nat} (hj : j < rs.length) : setC rs j rs[j]!.cs = rs := set_same rs j hj
theorem grid_putH {E : Env} {b : Nat} {cols : Int} {a : Option Addr} {m c : Nat} {rs : List Row} (j : Nat) (hj : j < rs.length) (cs : List Cell) (hc : cs.length = rs[j]!.cs.length) (w : World) {H : List HProp}
    (s : St E (osl 39 4 rs[j]!.hd rs[j]!.cs.length (cs.flatMap Cell.enc) :: many ((rs.eraseIdx j).map Row.own) :: own b [.int .i64 cols, .slice a m c] 61 :: osl 62 1 (.slice a m c) rs.length (rs.map Row.hd) :: H) w) : St E (gridA b cols a m c (setC rs j cs) ++ H) w := by
  unfold gridA
  rw [setC_hd hj, setC_len]
  have s1 : St E ((Row.mk rs[j]!.a rs[j]!.m rs[j]!.c cs).own :: many ((rs.eraseIdx j).map Row.own) :: ([own b [.int .i64 cols, .slice a m c] 61, osl 62 1 (.slice a m c) rs.length (rs.map Row.hd)] ++ H)) w := by
    unfold Row.own
    dsimp only
    rw [hc]
    exact s
  exact (rows_put j hj _ s1).perm (pick_perm (is := [1, 1, 0]) rfl)
theorem grid_put {E : Env} {b : Nat} {cols : Int} {a : Option Addr} {m c : Nat} {rs : List Row} (j : Nat) (hj : j < rs.length) (cs : List Cell) (hc : cs.length = rs[j]!.cs.length) (w : World)
    (s : St E [osl 39 4 rs[j]!.hd rs[j]!.cs.length (cs.flatMap Cell.enc), many ((rs.eraseIdx j).map Row.own), own b [.int .i64 cols, .slice a m c] 61, osl 62 1 (.slice a m c) rs.length (rs.map Row.hd)] w) : St E (gridA b cols a m c (setC rs j cs)) w := by
  have := grid_putH j hj cs hc w s
  simpa using this
theorem grid_take {E : Env} {b : Nat} {cols : Int} {a : Option Addr} {m c : Nat} {rs : List Row} (j : Nat) (hj : j < rs.length) (w : World) (s : St E (gridA b cols a m c rs) w) :
    St E [own b [.int .i64 cols, .slice a m c] 61, osl 62 1 (.slice a m c) rs.length (rs.map Row.hd), rs[j]!.own, many ((rs.eraseIdx j).map Row.own)] w :=
  pk [2, 2, 0, 0] rfl w (rows_take j hj (pk [2, 0, 0] rfl w s))
/-- what a grid's rows are -/
structure Fit (cols : Int) (rs : List Row) : Prop where
  n : 1 ≤ rs.length ∧ rs.length ≤ 12
  c : 1 ≤ cols ∧ cols ≤ 40
  r : ∀ r ∈ rs, (r.cs.length : Int) = cols
theorem Fit.at {cols : Int} {rs : List Row} (h : Fit cols rs) {j : Nat} (hj : j < rs.length) : (rs[j]!.cs.length : Int) = cols := by
  rw [getElem!_pos rs j hj]; exact h.r _ (List.getElem_mem hj)
theorem Fit.setC {cols : Int} {rs : List Row} (h : Fit cols rs) {j : Nat} {cs : List Cell} (hc : (cs.length : Int) = cols) : Fit cols (setC rs j cs) :=
  ⟨by rw [setC_len]; exact h.n, h.c, fun r hr => by
    rcases List.mem_or_eq_of_mem_set hr with h1 | h1
    · exact h.r r h1
    · rw [h1]; exact hc⟩
theorem gmade_ok (E : Env) (b : Nat) (cols : Int) (a : Option Addr) (m c : Nat) : Does Try.prog 85 #[.pointer (some ⟨b, 0, none⟩)] E [own b [.int .i64 cols, .slice a m c] 61] fun r H' => r = .bool (decide (0 < m)) ∧ H' = [own b [.int .i64 cols, .slice a m c] 61] := by
  refine Does.go (args := [.pointer (some ⟨b, 0, none⟩)]) _ _ Try.func85 rfl Try.ntmps85 rfl rfl ?_
  refine Body.seq ?_
  refine Body.region ?_
  refine Ops.u (Dtu.asg (lk rfl)) rfl ?_
  refine Ops.nil ?_
  refine Then.next ?_
  refine Body.seq ?_
  refine Body.region ?_
  refine Ops.u (Dtu.mv (lk rfl)) rfl ?_
  refine Ops.u (Dtu.neNil Try.underlying23 (lk rfl) (lk rfl)) rfl ?_
  refine Ops.u (Dtu.mv (lk rfl)) rfl ?_
  refine Ops.gu rfl rfl rfl (Dtu.mv (lk rfl)) rfl ?_
  refine Ops.gu rfl rfl rfl (Dtu.nilck (lk rfl)) rfl ?_
  refine Ops.gu rfl rfl rfl (Dtu.fld fa61_1 (lk rfl)) rfl ?_
  refine Ops.gd rfl rfl rfl (Det.ld Try.isAgg59 (lk rfl) (Rd.ow 0 rfl rfl)) rfl ?_
  refine Ops.gu rfl rfl rfl (Dtu.len Try.underlying59 (lk rfl)) rfl ?_
  refine Ops.gu rfl rfl rfl (Dtu.gtr (lk rfl) (lk rfl)) rfl ?_
  refine Ops.u (Dtu.pickT (lk rfl) (lk rfl)) rfl ?_
  refine Ops.u (Dtu.asg (lk rfl)) rfl ?_
  refine Ops.nil ?_
  refine Then.next ?_
  refine Body.ret ?_
  (refine ⟨.inr rfl, _, pk [0] rfl, bool_eq ?_, rfl⟩; simp)
theorem gmade_nil (E : Env) : Does Try.prog 85 #[.pointer none] E [] fun r H' => r = .bool false ∧ H' = [] := by
  refine Does.go (args := [.pointer none]) _ _ Try.func85 rfl Try.ntmps85 rfl rfl ?_
  refine Body.seq ?_
  refine Body.region ?_
  refine Ops.u (Dtu.asg (lk rfl)) rfl ?_
  refine Ops.nil ?_
  refine Then.next ?_
  refine Body.seq ?_
  refine Body.region ?_
  refine Ops.u (Dtu.mv (lk rfl)) rfl ?_
  refine Ops.u (Dtu.neNil Try.underlying23 (lk rfl) (lk rfl)) rfl ?_
  refine Ops.u (Dtu.mv (lk rfl)) rfl ?_
  refine Ops.gn rfl rfl rfl rfl rfl ?_
  refine Ops.gn rfl rfl rfl rfl rfl ?_
  refine Ops.gn rfl rfl rfl rfl rfl ?_
  refine Ops.gn rfl rfl rfl rfl rfl ?_
  refine Ops.gn rfl rfl rfl rfl rfl ?_
  refine Ops.gn rfl rfl rfl rfl rfl ?_
  refine Ops.u (Dtu.pickF (lk rfl) (lk rfl)) rfl ?_
  refine Ops.u (Dtu.asg (lk rfl)) rfl ?_
  refine Ops.nil ?_
  refine Then.next ?_
  refine Body.ret ?_
  exact ⟨.inr rfl, _, pk [] rfl, rfl, rfl⟩
def hasE (m : Nat) (cols row col : Int) : Int := if m = 0 then 6 else if 0 ≤ row ∧ row < m ∧ 0 ≤ col ∧ col < cols then 0 else 1
theorem ghas_ok (E : Env) (b : Nat) (cols : Int) (a : Option Addr) (m c : Nat) (row col : Int) : Does Try.prog 80 #[.pointer (some ⟨b, 0, none⟩), .int .i64 row, .int .i64 col] E [own b [.int .i64 cols, .slice a m c] 61] fun r H' => r = .int .i64 (hasE m cols row col) ∧ H' = [own b [.int .i64 cols, .slice a m c] 61] := by
  refine Does.go (args := [.pointer (some ⟨b, 0, none⟩), .int .i64 row, .int .i64 col]) _ _ Try.func80 rfl Try.ntmps80 rfl rfl ?_
  refine Body.seq ?_
  refine Body.region ?_
  refine Ops.u (Dtu.asg (lk rfl)) rfl ?_
  refine Ops.nil ?_
  refine Then.next ?_
  refine Body.seq ?_
  refine Body.block ?_
  refine Body.seq ?_
  refine Body.region ?_
  refine Ops.u (Dtu.mv (lk rfl)) rfl ?_
  refine Ops.s (Stp.callOwn [0] rfl rfl Try.call85 (lks rfl) (fun E' le hat => gmade_ok E' _ _ _ _ _) ?_) rfl
  rintro _ _ ⟨rfl, rfl⟩
  refine Ops.u (Dtu.notP (lk rfl)) rfl ?_
  refine Ops.u (Dtu.asg (lk rfl)) rfl ?_
  refine Ops.nil ?_
  refine Then.next ?_
  refine Body.condP (lk rfl) (fun c7 => ?_) (fun c7 => ?_)
  · refine Body.seq ?_
    refine Body.region ?_
    refine Ops.u (Dtu.asg (lk rfl)) rfl ?_
    refine Ops.nil ?_
    refine Then.next ?_
    refine Body.ret ?_
    refine Blk.ret ?_
    refine Then.ret ?_
    (refine ⟨.inr rfl, _, pk [0] rfl, i64_eq ?_, rfl⟩; unfold hasE; (repeat' split) <;> omega)
  · refine Body.seq ?_
    refine Body.region ?_
    refine Ops.u (Dtu.mv (lk rfl)) rfl ?_
    refine Ops.u (Dtu.lss (lk rfl) (lk rfl)) rfl ?_
    refine Ops.u (Dtu.mv (lk rfl)) rfl ?_
    refine Ops.decP 14 rfl (fun c14 => ?_) (fun c14 => ?_)
    · refine Ops.gn rfl rfl rfl rfl rfl ?_
      refine Ops.gn rfl rfl rfl rfl rfl ?_
      refine Ops.gn rfl rfl rfl rfl rfl ?_
      refine Ops.gn rfl rfl rfl rfl rfl ?_
      refine Ops.gn rfl rfl rfl rfl rfl ?_
      refine Ops.gn rfl rfl rfl rfl rfl ?_
      refine Ops.gn rfl rfl rfl rfl rfl ?_
      refine Ops.u (Dtu.pickT (lk rfl) (lk rfl)) rfl ?_
      refine Ops.u (Dtu.mv (lk rfl)) rfl ?_
      refine Ops.gn rfl rfl rfl rfl rfl ?_
      refine Ops.gn rfl rfl rfl rfl rfl ?_
      refine Ops.u (Dtu.pickT (lk rfl) (lk rfl)) rfl ?_
      refine Ops.u (Dtu.mv (lk rfl)) rfl ?_
      refine Ops.gn rfl rfl rfl rfl rfl ?_
      refine Ops.gn rfl rfl rfl rfl rfl ?_
      refine Ops.gn rfl rfl rfl rfl rfl ?_
      refine Ops.gn rfl rfl rfl rfl rfl ?_
      refine Ops.gn rfl rfl rfl rfl rfl ?_
      refine Ops.gn rfl rfl rfl rfl rfl ?_
      refine Ops.u (Dtu.pickT (lk rfl) (lk rfl)) rfl ?_
      refine Ops.u (Dtu.asg (lk rfl)) rfl ?_
      refine Ops.nil ?_
      refine Then.next ?_
      refine Body.condT (lk rfl) ?_
      refine Body.seq ?_
      refine Body.region ?_
      refine Ops.u (Dtu.asg (lk rfl)) rfl ?_
      refine Ops.nil ?_
      refine Then.next ?_
      refine Body.ret ?_
      refine Blk.ret ?_
      refine Then.ret ?_
      (refine ⟨.inr rfl, _, pk [0] rfl, i64_eq ?_, rfl⟩; unfold hasE; (repeat' split) <;> omega)
    · refine Ops.gu rfl rfl rfl (Dtu.mv (lk rfl)) rfl ?_
      refine Ops.gu rfl rfl rfl (Dtu.mv (lk rfl)) rfl ?_
      refine Ops.gu rfl rfl rfl (Dtu.nilck (lk rfl)) rfl ?_
      refine Ops.gu rfl rfl rfl (Dtu.fld fa61_1 (lk rfl)) rfl ?_
      refine Ops.gd rfl rfl rfl (Det.ld Try.isAgg59 (lk rfl) (Rd.ow 0 rfl rfl)) rfl ?_
      refine Ops.gu rfl rfl rfl (Dtu.len Try.underlying59 (lk rfl)) rfl ?_
      refine Ops.gu rfl rfl rfl (Dtu.geq (lk rfl) (lk rfl)) rfl ?_
      refine Ops.u (Dtu.pickF (lk rfl) (lk rfl)) rfl ?_
      refine Ops.u (Dtu.mv (lk rfl)) rfl ?_
      refine Ops.decP 23 rfl (fun c23 => ?_) (fun c23 => ?_)
      · refine Ops.gn rfl rfl rfl rfl rfl ?_
        refine Ops.gn rfl rfl rfl rfl rfl ?_
        refine Ops.u (Dtu.pickT (lk rfl) (lk rfl)) rfl ?_
        refine Ops.u (Dtu.mv (lk rfl)) rfl ?_
        refine Ops.gn rfl rfl rfl rfl rfl ?_
        refine Ops.gn rfl rfl rfl rfl rfl ?_
        refine Ops.gn rfl rfl rfl rfl rfl ?_
        refine Ops.gn rfl rfl rfl rfl rfl ?_
        refine Ops.gn rfl rfl rfl rfl rfl ?_
        refine Ops.gn rfl rfl rfl rfl rfl ?_
        refine Ops.u (Dtu.pickT (lk rfl) (lk rfl)) rfl ?_
        refine Ops.u (Dtu.asg (lk rfl)) rfl ?_
        refine Ops.nil ?_
        refine Then.next ?_
        refine Body.condT (lk rfl) ?_
        refine Body.seq ?_
        refine Body.region ?_
        refine Ops.u (Dtu.asg (lk rfl)) rfl ?_
        refine Ops.nil ?_
        refine Then.next ?_
        refine Body.ret ?_
        refine Blk.ret ?_
        refine Then.ret ?_
        (refine ⟨.inr rfl, _, pk [0] rfl, i64_eq ?_, rfl⟩; unfold hasE; (repeat' split) <;> omega)
      · refine Ops.gu rfl rfl rfl (Dtu.mv (lk rfl)) rfl ?_
        refine Ops.gu rfl rfl rfl (Dtu.lss (lk rfl) (lk rfl)) rfl ?_
        refine Ops.u (Dtu.pickF (lk rfl) (lk rfl)) rfl ?_
        refine Ops.u (Dtu.mv (lk rfl)) rfl ?_
        refine Ops.decP 27 rfl (fun c27 => ?_) (fun c27 => ?_)
        · refine Ops.gn rfl rfl rfl rfl rfl ?_
          refine Ops.gn rfl rfl rfl rfl rfl ?_
          refine Ops.gn rfl rfl rfl rfl rfl ?_
          refine Ops.gn rfl rfl rfl rfl rfl ?_
          refine Ops.gn rfl rfl rfl rfl rfl ?_
          refine Ops.gn rfl rfl rfl rfl rfl ?_
          refine Ops.u (Dtu.pickT (lk rfl) (lk rfl)) rfl ?_
          refine Ops.u (Dtu.asg (lk rfl)) rfl ?_
          refine Ops.nil ?_
          refine Then.next ?_
          refine Body.condT (lk rfl) ?_
          refine Body.seq ?_
          refine Body.region ?_
          refine Ops.u (Dtu.asg (lk rfl)) rfl ?_
          refine Ops.nil ?_
          refine Then.next ?_
          refine Body.ret ?_
          refine Blk.ret ?_
          refine Then.ret ?_
          (refine ⟨.inr rfl, _, pk [0] rfl, i64_eq ?_, rfl⟩; unfold hasE; (repeat' split) <;> omega)
        · refine Ops.gu rfl rfl rfl (Dtu.mv (lk rfl)) rfl ?_
          refine Ops.gu rfl rfl rfl (Dtu.mv (lk rfl)) rfl ?_
          refine Ops.gu rfl rfl rfl (Dtu.nilck (lk rfl)) rfl ?_
          refine Ops.gu rfl rfl rfl (Dtu.fld fa61_0 (lk rfl)) rfl ?_
          refine Ops.gd rfl rfl rfl (Det.ld Try.isAgg3 (lk rfl) (Rd.ow 0 rfl rfl)) rfl ?_
          refine Ops.gu rfl rfl rfl (Dtu.geq (lk rfl) (lk rfl)) rfl ?_
          refine Ops.u (Dtu.pickF (lk rfl) (lk rfl)) rfl ?_
          refine Ops.u (Dtu.asg (lk rfl)) rfl ?_
          refine Ops.nil ?_
          refine Then.next ?_
          refine Body.condP (lk rfl) (fun c11 => ?_) (fun c11 => ?_)
          · refine Body.seq ?_
            refine Body.region ?_
            refine Ops.u (Dtu.asg (lk rfl)) rfl ?_
            refine Ops.nil ?_
            refine Then.next ?_
            refine Body.ret ?_
            refine Blk.ret ?_
            refine Then.ret ?_
            (refine ⟨.inr rfl, _, pk [0] rfl, i64_eq ?_, rfl⟩; unfold hasE; (repeat' split) <;> omega)
          · refine Body.skip ?_
            refine Blk.norm ?_
            refine Then.next ?_
            refine Body.seq ?_
            refine Body.region ?_
            refine Ops.u (Dtu.asg (lk rfl)) rfl ?_
            refine Ops.nil ?_
            refine Then.next ?_
            refine Body.ret ?_
            (refine ⟨.inr rfl, _, pk [0] rfl, i64_eq ?_, rfl⟩; unfold hasE; (repeat' split) <;> omega)
theorem ghas_nil (E : Env) (row col : Int) : Does Try.prog 80 #[.pointer none, .int .i64 row, .int .i64 col] E [] fun r H' => r = .int .i64 6 ∧ H' = [] := by
  refine Does.go (args := [.pointer none, .int .i64 row, .int .i64 col]) _ _ Try.func80 rfl Try.ntmps80 rfl rfl ?_
  refine Body.seq ?_
  refine Body.region ?_
  refine Ops.u (Dtu.asg (lk rfl)) rfl ?_
  refine Ops.nil ?_
  refine Then.next ?_
  refine Body.seq ?_
  refine Body.block ?_
  refine Body.seq ?_
  refine Body.region ?_
  refine Ops.u (Dtu.mv (lk rfl)) rfl ?_
  refine Ops.s (Stp.call rfl Try.call85 (lks rfl) (fun E' le hat => gmade_nil E') ?_) rfl
  rintro _ _ ⟨rfl, rfl⟩
  refine Ops.u (Dtu.not (lk rfl)) rfl ?_
  refine Ops.u (Dtu.asg (lk rfl)) rfl ?_
  refine Ops.nil ?_
  refine Then.next ?_
  refine Body.condT (lk rfl) ?_
  refine Body.seq ?_
  refine Body.region ?_
  refine Ops.u (Dtu.asg (lk rfl)) rfl ?_
  refine Ops.nil ?_
  refine Then.next ?_
  refine Body.ret ?_
  refine Blk.ret ?_
  refine Then.ret ?_
  exact ⟨.inr rfl, _, pk [] rfl, rfl, rfl⟩
def rowsE (m : Nat) (top bottom n : Int) : Int := if m = 0 then 6 else if 0 ≤ top ∧ top ≤ bottom ∧ bottom < m ∧ 0 ≤ n then 0 else 1
theorem grows_ok (E : Env) (b : Nat) (cols : Int) (a : Option Addr) (m c : Nat) (top bottom n : Int) : Does Try.prog 82 #[.pointer (some ⟨b, 0, none⟩), .int .i64 top, .int .i64 bottom, .int .i64 n] E [own b [.int .i64 cols, .slice a m c] 61] fun r H' => r = .int .i64 (rowsE m top bottom n) ∧ H' = [own b [.int .i64 cols, .slice a m c] 61] := by
  refine Does.go (args := [.pointer (some ⟨b, 0, none⟩), .int .i64 top, .int .i64 bottom, .int .i64 n]) _ _ Try.func82 rfl Try.ntmps82 rfl rfl ?_
  refine Body.seq ?_
  refine Body.region ?_
  refine Ops.u (Dtu.asg (lk rfl)) rfl ?_
  refine Ops.nil ?_
  refine Then.next ?_
  refine Body.seq ?_
  refine Body.block ?_
  refine Body.seq ?_
  refine Body.region ?_
  refine Ops.u (Dtu.mv (lk rfl)) rfl ?_
  refine Ops.s (Stp.callOwn [0] rfl rfl Try.call85 (lks rfl) (fun E' le hat => gmade_ok E' _ _ _ _ _) ?_) rfl
  rintro _ _ ⟨rfl, rfl⟩
  refine Ops.u (Dtu.notP (lk rfl)) rfl ?_
  refine Ops.u (Dtu.asg (lk rfl)) rfl ?_
  refine Ops.nil ?_
  refine Then.next ?_
  refine Body.condP (lk rfl) (fun c9 => ?_) (fun c9 => ?_)
  · refine Body.seq ?_
    refine Body.region ?_
    refine Ops.u (Dtu.asg (lk rfl)) rfl ?_
    refine Ops.nil ?_
    refine Then.next ?_
    refine Body.ret ?_
    refine Blk.ret ?_
    refine Then.ret ?_
    (refine ⟨.inr rfl, _, pk [0] rfl, i64_eq ?_, rfl⟩; unfold rowsE; (repeat' split) <;> omega)
  · refine Body.seq ?_
    refine Body.region ?_
    refine Ops.u (Dtu.mv (lk rfl)) rfl ?_
    refine Ops.u (Dtu.lss (lk rfl) (lk rfl)) rfl ?_
    refine Ops.u (Dtu.mv (lk rfl)) rfl ?_
    refine Ops.decP 16 rfl (fun c16 => ?_) (fun c16 => ?_)
    · refine Ops.gn rfl rfl rfl rfl rfl ?_
      refine Ops.gn rfl rfl rfl rfl rfl ?_
      refine Ops.gn rfl rfl rfl rfl rfl ?_
      refine Ops.u (Dtu.pickT (lk rfl) (lk rfl)) rfl ?_
      refine Ops.u (Dtu.mv (lk rfl)) rfl ?_
      refine Ops.gn rfl rfl rfl rfl rfl ?_
      refine Ops.gn rfl rfl rfl rfl rfl ?_
      refine Ops.gn rfl rfl rfl rfl rfl ?_
      refine Ops.gn rfl rfl rfl rfl rfl ?_
      refine Ops.gn rfl rfl rfl rfl rfl ?_
      refine Ops.gn rfl rfl rfl rfl rfl ?_
      refine Ops.gn rfl rfl rfl rfl rfl ?_
      refine Ops.u (Dtu.pickT (lk rfl) (lk rfl)) rfl ?_
      refine Ops.u (Dtu.mv (lk rfl)) rfl ?_
      refine Ops.gn rfl rfl rfl rfl rfl ?_
      refine Ops.gn rfl rfl rfl rfl rfl ?_
      refine Ops.u (Dtu.pickT (lk rfl) (lk rfl)) rfl ?_
      refine Ops.u (Dtu.asg (lk rfl)) rfl ?_
      refine Ops.nil ?_
      refine Then.next ?_
      refine Body.condT (lk rfl) ?_
      refine Body.seq ?_
      refine Body.region ?_
      refine Ops.u (Dtu.asg (lk rfl)) rfl ?_
      refine Ops.nil ?_
      refine Then.next ?_
      refine Body.ret ?_
      refine Blk.ret ?_
      refine Then.ret ?_
      (refine ⟨.inr rfl, _, pk [0] rfl, i64_eq ?_, rfl⟩; unfold rowsE; (repeat' split) <;> omega)
    · refine Ops.gu rfl rfl rfl (Dtu.mv (lk rfl)) rfl ?_
      refine Ops.gu rfl rfl rfl (Dtu.mv (lk rfl)) rfl ?_
      refine Ops.gu rfl rfl rfl (Dtu.gtr (lk rfl) (lk rfl)) rfl ?_
      refine Ops.u (Dtu.pickF (lk rfl) (lk rfl)) rfl ?_
      refine Ops.u (Dtu.mv (lk rfl)) rfl ?_
      refine Ops.decP 21 rfl (fun c21 => ?_) (fun c21 => ?_)
      · refine Ops.gn rfl rfl rfl rfl rfl ?_
        refine Ops.gn rfl rfl rfl rfl rfl ?_
        refine Ops.gn rfl rfl rfl rfl rfl ?_
        refine Ops.gn rfl rfl rfl rfl rfl ?_
        refine Ops.gn rfl rfl rfl rfl rfl ?_
        refine Ops.gn rfl rfl rfl rfl rfl ?_
        refine Ops.gn rfl rfl rfl rfl rfl ?_
        refine Ops.u (Dtu.pickT (lk rfl) (lk rfl)) rfl ?_
        refine Ops.u (Dtu.mv (lk rfl)) rfl ?_
        refine Ops.gn rfl rfl rfl rfl rfl ?_
        refine Ops.gn rfl rfl rfl rfl rfl ?_
        refine Ops.u (Dtu.pickT (lk rfl) (lk rfl)) rfl ?_
        refine Ops.u (Dtu.asg (lk rfl)) rfl ?_
        refine Ops.nil ?_
        refine Then.next ?_
        refine Body.condT (lk rfl) ?_
        refine Body.seq ?_
        refine Body.region ?_
        refine Ops.u (Dtu.asg (lk rfl)) rfl ?_
        refine Ops.nil ?_
        refine Then.next ?_
        refine Body.ret ?_
        refine Blk.ret ?_
        refine Then.ret ?_
        (refine ⟨.inr rfl, _, pk [0] rfl, i64_eq ?_, rfl⟩; unfold rowsE; (repeat' split) <;> omega)
      · refine Ops.gu rfl rfl rfl (Dtu.mv (lk rfl)) rfl ?_
        refine Ops.gu rfl rfl rfl (Dtu.mv (lk rfl)) rfl ?_
        refine Ops.gu rfl rfl rfl (Dtu.nilck (lk rfl)) rfl ?_
        refine Ops.gu rfl rfl rfl (Dtu.fld fa61_1 (lk rfl)) rfl ?_
        refine Ops.gd rfl rfl rfl (Det.ld Try.isAgg59 (lk rfl) (Rd.ow 0 rfl rfl)) rfl ?_
        refine Ops.gu rfl rfl rfl (Dtu.len Try.underlying59 (lk rfl)) rfl ?_
        refine Ops.gu rfl rfl rfl (Dtu.geq (lk rfl) (lk rfl)) rfl ?_
        refine Ops.u (Dtu.pickF (lk rfl) (lk rfl)) rfl ?_
        refine Ops.u (Dtu.mv (lk rfl)) rfl ?_
        refine Ops.decP 30 rfl (fun c30 => ?_) (fun c30 => ?_)
        · refine Ops.gn rfl rfl rfl rfl rfl ?_
          refine Ops.gn rfl rfl rfl rfl rfl ?_
          refine Ops.u (Dtu.pickT (lk rfl) (lk rfl)) rfl ?_
          refine Ops.u (Dtu.asg (lk rfl)) rfl ?_
          refine Ops.nil ?_
          refine Then.next ?_
          refine Body.condT (lk rfl) ?_
          refine Body.seq ?_
          refine Body.region ?_
          refine Ops.u (Dtu.asg (lk rfl)) rfl ?_
          refine Ops.nil ?_
          refine Then.next ?_
          refine Body.ret ?_
          refine Blk.ret ?_
          refine Then.ret ?_
          (refine ⟨.inr rfl, _, pk [0] rfl, i64_eq ?_, rfl⟩; unfold rowsE; (repeat' split) <;> omega)
        · refine Ops.gu rfl rfl rfl (Dtu.mv (lk rfl)) rfl ?_
          refine Ops.gu rfl rfl rfl (Dtu.lss (lk rfl) (lk rfl)) rfl ?_
          refine Ops.u (Dtu.pickF (lk rfl) (lk rfl)) rfl ?_
          refine Ops.u (Dtu.asg (lk rfl)) rfl ?_
          refine Ops.nil ?_
          refine Then.next ?_
          refine Body.condP (lk rfl) (fun c13 => ?_) (fun c13 => ?_)
          · refine Body.seq ?_
            refine Body.region ?_
            refine Ops.u (Dtu.asg (lk rfl)) rfl ?_
            refine Ops.nil ?_
            refine Then.next ?_
            refine Body.ret ?_
            refine Blk.ret ?_
            refine Then.ret ?_
            (refine ⟨.inr rfl, _, pk [0] rfl, i64_eq ?_, rfl⟩; unfold rowsE; (repeat' split) <;> omega)
          · refine Body.skip ?_
            refine Blk.norm ?_
            refine Then.next ?_
            refine Body.seq ?_
            refine Body.region ?_
            refine Ops.u (Dtu.asg (lk rfl)) rfl ?_
            refine Ops.nil ?_
            refine Then.next ?_
            refine Body.ret ?_
            (refine ⟨.inr rfl, _, pk [0] rfl, i64_eq ?_, rfl⟩; unfold rowsE; (repeat' split) <;> omega)
theorem grows_nil (E : Env) (top bottom n : Int) : Does Try.prog 82 #[.pointer none, .int .i64 top, .int .i64 bottom, .int .i64 n] E [] fun r H' => r = .int .i64 6 ∧ H' = [] := by
  refine Does.go (args := [.pointer none, .int .i64 top, .int .i64 bottom, .int .i64 n]) _ _ Try.func82 rfl Try.ntmps82 rfl rfl ?_
  refine Body.seq ?_
  refine Body.region ?_
  refine Ops.u (Dtu.asg (lk rfl)) rfl ?_
  refine Ops.nil ?_
  refine Then.next ?_
  refine Body.seq ?_
  refine Body.block ?_
  refine Body.seq ?_
  refine Body.region ?_
  refine Ops.u (Dtu.mv (lk rfl)) rfl ?_
  refine Ops.s (Stp.call rfl Try.call85 (lks rfl) (fun E' le hat => gmade_nil E') ?_) rfl
  rintro _ _ ⟨rfl, rfl⟩
  refine Ops.u (Dtu.not (lk rfl)) rfl ?_
  refine Ops.u (Dtu.asg (lk rfl)) rfl ?_
  refine Ops.nil ?_
  refine Then.next ?_
  refine Body.condT (lk rfl) ?_
  refine Body.seq ?_
  refine Body.region ?_
  refine Ops.u (Dtu.asg (lk rfl)) rfl ?_
  refine Ops.nil ?_
  refine Then.next ?_
  refine Body.ret ?_
  refine Blk.ret ?_
  refine Then.ret ?_
  exact ⟨.inr rfl, _, pk [] rfl, rfl, rfl⟩
end Go.Proofs.Ytpmapedhigjalaa
end
section
/- A grid: At, Put, Line, Fill. -/
namespace Go.Proofs.Ytpmapedhigjalaa
set_option maxRecDepth 100000
set_option linter.unusedVariables false
set_option linter.unusedSimpArgs false
open Go.Sx

theorem gat_nil (E : Env) (row col : Int) : Does Try.prog 16 #[.pointer none, .int .i64 row, .int .i64 col] E [] fun r H' => r = .tuple #[.agg #[.int .i32 0, .int .u8 0, .int .u32 0, .int .u32 0], .int .i64 6] ∧ H' = [] := by
  refine Does.go (args := [.pointer none, .int .i64 row, .int .i64 col]) _ _ Try.func16 rfl Try.ntmps16 rfl rfl ?_
  refine Body.seq ?_
  refine Body.region ?_
  refine Ops.s (Stp.alloc ty39 (fun b6 => ?_)) rfl
  refine Ops.u (Dtu.asg (lk rfl)) rfl ?_
  refine Ops.nil ?_
  refine Then.next ?_
  refine Body.seq ?_
  refine Body.seq ?_
  refine Body.region ?_
  refine Ops.u (Dtu.mv (lk rfl)) rfl ?_
  refine Ops.u (Dtu.mv (lk rfl)) rfl ?_
  refine Ops.u (Dtu.mv (lk rfl)) rfl ?_
  refine Ops.s (Stp.call rfl Try.call80 (lks rfl) (fun E' le hat => ghas_nil E' _ _) ?_) rfl
  rintro _ _ ⟨rfl, rfl⟩
  refine Ops.u (Dtu.asg (lk rfl)) rfl ?_
  refine Ops.nil ?_
  refine Then.next ?_
  refine Body.seq ?_
  refine Body.region ?_
  refine Ops.u (Dtu.mv (lk rfl)) rfl ?_
  refine Ops.u (Dtu.neq (lk rfl) (lk rfl)) rfl ?_
  refine Ops.nil ?_
  refine Then.next ?_
  refine Body.condP (lk rfl) (fun _ => ?_) (fun hn => absurd (by first | omega | assumption | decide) hn)
  refine Body.seq ?_
  refine Body.region ?_
  refine Ops.u (Dtu.build ty39 pl39 (lkp rfl) rfl rfl) rfl ?_
  refine Ops.u (Dtu.mv (lk rfl)) rfl ?_
  refine Ops.e (Stp.store 0 Try.sizeOf39 (lk rfl) (lk rfl) rfl rfl rfl rfl rfl rfl rfl ?_)
  refine Ops.u (Dtu.asg (lk rfl)) rfl ?_
  refine Ops.nil ?_
  refine Then.next ?_
  refine Body.ret ?_
  refine Then.ret ?_
  exact ⟨.inr rfl, _, Loads.agg Try.isAgg39 Try.sizeOf39 (Rds.ow (m := 4) 0 rfl rfl) rfl, _, pk [] rfl, rfl, rfl⟩
theorem gat_no (E : Env) (b : Nat) (cols : Int) (a : Option Addr) (m c : Nat) (row col : Int) (h : hasE m cols row col ≠ 0) : Does Try.prog 16 #[.pointer (some ⟨b, 0, none⟩), .int .i64 row, .int .i64 col] E [own b [.int .i64 cols, .slice a m c] 61] fun r H' => r = .tuple #[.agg #[.int .i32 0, .int .u8 0, .int .u32 0, .int .u32 0], .int .i64 (hasE m cols row col)] ∧ H' = [own b [.int .i64 cols, .slice a m c] 61] := by
  refine Does.go (args := [.pointer (some ⟨b, 0, none⟩), .int .i64 row, .int .i64 col]) _ _ Try.func16 rfl Try.ntmps16 rfl rfl ?_
  refine Body.seq ?_
  refine Body.region ?_
  refine Ops.s (Stp.alloc ty39 (fun b6 => ?_)) rfl
  refine Ops.u (Dtu.asg (lk rfl)) rfl ?_
  refine Ops.nil ?_
  refine Then.next ?_
  refine Body.seq ?_
  refine Body.seq ?_
  refine Body.region ?_
  refine Ops.u (Dtu.mv (lk rfl)) rfl ?_
  refine Ops.u (Dtu.mv (lk rfl)) rfl ?_
  refine Ops.u (Dtu.mv (lk rfl)) rfl ?_
  refine Ops.s (Stp.callOwn [1] rfl rfl Try.call80 (lks rfl) (fun E' le hat => ghas_ok E' _ _ _ _ _ _ _) ?_) rfl
  rintro _ _ ⟨rfl, rfl⟩
  refine Ops.u (Dtu.asg (lk rfl)) rfl ?_
  refine Ops.nil ?_
  refine Then.next ?_
  refine Body.seq ?_
  refine Body.region ?_
  refine Ops.u (Dtu.mv (lk rfl)) rfl ?_
  refine Ops.u (Dtu.neq (lk rfl) (lk rfl)) rfl ?_
  refine Ops.nil ?_
  refine Then.next ?_
  refine Body.condP (lk rfl) (fun _ => ?_) (fun hn => absurd (by first | omega | assumption | decide) hn)
  refine Body.seq ?_
  refine Body.region ?_
  refine Ops.u (Dtu.build ty39 pl39 (lkp rfl) rfl rfl) rfl ?_
  refine Ops.u (Dtu.mv (lk rfl)) rfl ?_
  refine Ops.e (Stp.store 1 Try.sizeOf39 (lk rfl) (lk rfl) rfl rfl rfl rfl rfl rfl rfl ?_)
  refine Ops.u (Dtu.asg (lk rfl)) rfl ?_
  refine Ops.nil ?_
  refine Then.next ?_
  refine Body.ret ?_
  refine Then.ret ?_
  exact ⟨.inr rfl, _, Loads.agg Try.isAgg39 Try.sizeOf39 (Rds.ow (m := 4) 1 rfl rfl) rfl, _, pk [0] rfl, rfl, rfl⟩
theorem has_yes {m : Nat} {cols row col : Int} (h : hasE m cols row col = 0) : 0 < m ∧ 0 ≤ row ∧ row < m ∧ 0 ≤ col ∧ col < cols := by
  unfold hasE at h; (repeat' split at h) <;> omega
theorem gat_ok (E : Env) (b : Nat) (cols : Int) (a : Option Addr) (m c : Nat) (rs : List Row) (hr : Fit cols rs) (row col : Nat) (h : hasE rs.length cols row col = 0) : Does Try.prog 16 #[.pointer (some ⟨b, 0, none⟩), .int .i64 row, .int .i64 col] E (gridA b cols a m c rs) fun r H' => r = .tuple #[.agg (rs[row]!.cs[col]!).enc.toArray, .int .i64 0] ∧ H' = gridA b cols a m c rs := by
  have hh := has_yes h
  have hrow : row < rs.length := by omega
  have hl := hr.at hrow
  refine Does.pure (Sl.litLen (Sl.osl (t := 62) 1 rfl)) fun hm => ?_
  subst hm
  refine Does.conseq (grid_take row hrow) ?_
  refine Does.go (args := [.pointer (some ⟨b, 0, none⟩), .int .i64 row, .int .i64 col]) _ _ Try.func16 rfl Try.ntmps16 rfl rfl ?_
  refine Body.seq ?_
  refine Body.region ?_
  refine Ops.s (Stp.alloc ty39 (fun b6 => ?_)) rfl
  refine Ops.u (Dtu.asg (lk rfl)) rfl ?_
  refine Ops.nil ?_
  refine Then.next ?_
  refine Body.seq ?_
  refine Body.seq ?_
  refine Body.region ?_
  refine Ops.u (Dtu.mv (lk rfl)) rfl ?_
  refine Ops.u (Dtu.mv (lk rfl)) rfl ?_
  refine Ops.u (Dtu.mv (lk rfl)) rfl ?_
  refine Ops.s (Stp.callOwn [1] rfl rfl Try.call80 (lks rfl) (fun E' le hat => ghas_ok E' _ _ _ _ _ _ _) ?_) rfl
  rintro _ _ ⟨rfl, rfl⟩
  refine Ops.u (Dtu.asg (lk rfl)) rfl ?_
  refine Ops.nil ?_
  refine Then.next ?_
  refine Body.seq ?_
  refine Body.region ?_
  refine Ops.u (Dtu.mv (lk rfl)) rfl ?_
  refine Ops.u (Dtu.neq (lk rfl) (lk rfl)) rfl ?_
  refine Ops.nil ?_
  refine Then.next ?_
  refine Body.condP (lk rfl) (fun hy => absurd hy (by first | omega | assumption | decide)) (fun _ => ?_)
  refine Body.skip ?_
  refine Then.next ?_
  refine Body.seq ?_
  refine Body.region ?_
  refine Ops.u (Dtu.mv (lk rfl)) rfl ?_
  refine Ops.u (Dtu.nilck (lk rfl)) rfl ?_
  refine Ops.u (Dtu.fld fa61_1 (lk rfl)) rfl ?_
  refine Ops.d (Det.ld Try.isAgg59 (lk rfl) (Rd.ow 0 rfl rfl)) rfl ?_
  refine Ops.u (Dtu.mv (lk rfl)) rfl ?_
  refine Ops.u (Dtu.ix (i := (row)) Try.underlying59 Try.sizeOf62 (Sl.osl 2 rfl) (lk rfl) (lk rfl) (by omega) (by omega)) rfl ?_
  refine Ops.d (Det.ld Try.isAgg62 (lk rfl) (Rd.sl (Sl.osl 2 rfl) (gm (by omega)))) rfl ?_
  refine Ops.u (Dtu.mv (lk rfl)) rfl ?_
  refine Ops.u (Dtu.ix (i := (col)) Try.underlying62 Try.sizeOf39 (Sl.osl 3 rfl) (lk rfl) (lk rfl) (by omega) (by omega)) rfl ?_
  refine Ops.d (Det.lda Try.isAgg39 Try.sizeOf39 (lk rfl) (Rds.sl (Sl.osl 3 rfl) (gf (sz := 4) (fun _ => rfl) (by omega))) rfl) rfl ?_
  refine Ops.e (Stp.store 1 Try.sizeOf39 (lk rfl) (lk rfl) rfl rfl rfl rfl rfl rfl rfl ?_)
  refine Ops.u (Dtu.asg (lk rfl)) rfl ?_
  refine Ops.nil ?_
  refine Then.next ?_
  refine Body.ret ?_
  refine ⟨.inr rfl, _, Loads.agg Try.isAgg39 Try.sizeOf39 (Rds.ow (m := 4) 1 rfl rfl) rfl, _, fun w s => ?_, rfl, rfl⟩
  have s2 := grid_put row hrow _ rfl w (pk [3, 3, 0, 1] rfl w s)
  rw [setC_same hrow] at s2
  exact s2
theorem gput_nil (E : Env) (row col : Int) (p f g q : Int) : Does Try.prog 29 #[.pointer none, .int .i64 row, .int .i64 col, .agg #[.int .i32 p, .int .u8 f, .int .u32 g, .int .u32 q]] E [] fun r H' => r = .int .i64 6 ∧ H' = [] := by
  refine Does.go (args := [.pointer none, .int .i64 row, .int .i64 col, .agg #[.int .i32 p, .int .u8 f, .int .u32 g, .int .u32 q]]) _ _ Try.func29 rfl Try.ntmps29 rfl rfl ?_
  refine Body.seq ?_
  refine Body.region ?_
  refine Ops.s (Stp.box (lk rfl) rfl (fun b7 => ?_)) rfl
  refine Ops.u (Dtu.asg (lk rfl)) rfl ?_
  refine Ops.nil ?_
  refine Then.next ?_
  refine Body.seq ?_
  refine Body.region ?_
  refine Ops.u (Dtu.mv (lk rfl)) rfl ?_
  refine Ops.u (Dtu.mv (lk rfl)) rfl ?_
  refine Ops.u (Dtu.mv (lk rfl)) rfl ?_
  refine Ops.s (Stp.call rfl Try.call80 (lks rfl) (fun E' le hat => ghas_nil E' _ _) ?_) rfl
  rintro _ _ ⟨rfl, rfl⟩
  refine Ops.u (Dtu.asg (lk rfl)) rfl ?_
  refine Ops.nil ?_
  refine Then.next ?_
  refine Body.seq ?_
  refine Body.seq ?_
  refine Body.region ?_
  refine Ops.u (Dtu.mv (lk rfl)) rfl ?_
  refine Ops.u (Dtu.eql (lk rfl) (lk rfl)) rfl ?_
  refine Ops.nil ?_
  refine Then.next ?_
  refine Body.condP (lk rfl) (fun hy => absurd hy (by first | omega | assumption | decide)) (fun _ => ?_)
  refine Body.skip ?_
  refine Then.next ?_
  refine Body.seq ?_
  refine Body.region ?_
  refine Ops.u (Dtu.mv (lk rfl)) rfl ?_
  refine Ops.u (Dtu.asg (lk rfl)) rfl ?_
  refine Ops.nil ?_
  refine Then.next ?_
  refine Body.ret ?_
  exact ⟨.inr rfl, _, pk [] rfl, rfl, rfl⟩
theorem gput_no (E : Env) (b : Nat) (cols : Int) (a : Option Addr) (m c : Nat) (row col : Int) (p f g q : Int) (h : hasE m cols row col ≠ 0) : Does Try.prog 29 #[.pointer (some ⟨b, 0, none⟩), .int .i64 row, .int .i64 col, .agg #[.int .i32 p, .int .u8 f, .int .u32 g, .int .u32 q]] E [own b [.int .i64 cols, .slice a m c] 61] fun r H' => r = .int .i64 (hasE m cols row col) ∧ H' = [own b [.int .i64 cols, .slice a m c] 61] := by
  refine Does.go (args := [.pointer (some ⟨b, 0, none⟩), .int .i64 row, .int .i64 col, .agg #[.int .i32 p, .int .u8 f, .int .u32 g, .int .u32 q]]) _ _ Try.func29 rfl Try.ntmps29 rfl rfl ?_
  refine Body.seq ?_
  refine Body.region ?_
  refine Ops.s (Stp.box (lk rfl) rfl (fun b7 => ?_)) rfl
  refine Ops.u (Dtu.asg (lk rfl)) rfl ?_
  refine Ops.nil ?_
  refine Then.next ?_
  refine Body.seq ?_
  refine Body.region ?_
  refine Ops.u (Dtu.mv (lk rfl)) rfl ?_
  refine Ops.u (Dtu.mv (lk rfl)) rfl ?_
  refine Ops.u (Dtu.mv (lk rfl)) rfl ?_
  refine Ops.s (Stp.callOwn [1] rfl rfl Try.call80 (lks rfl) (fun E' le hat => ghas_ok E' _ _ _ _ _ _ _) ?_) rfl
  rintro _ _ ⟨rfl, rfl⟩
  refine Ops.u (Dtu.asg (lk rfl)) rfl ?_
  refine Ops.nil ?_
  refine Then.next ?_
  refine Body.seq ?_
  refine Body.seq ?_
  refine Body.region ?_
  refine Ops.u (Dtu.mv (lk rfl)) rfl ?_
  refine Ops.u (Dtu.eql (lk rfl) (lk rfl)) rfl ?_
  refine Ops.nil ?_
  refine Then.next ?_
  refine Body.condP (lk rfl) (fun hy => absurd hy (by first | omega | assumption | decide)) (fun _ => ?_)
  refine Body.skip ?_
  refine Then.next ?_
  refine Body.seq ?_
  refine Body.region ?_
  refine Ops.u (Dtu.mv (lk rfl)) rfl ?_
  refine Ops.u (Dtu.asg (lk rfl)) rfl ?_
  refine Ops.nil ?_
  refine Then.next ?_
  refine Body.ret ?_
  exact ⟨.inr rfl, _, pk [0] rfl, rfl, rfl⟩
theorem gput_ok (E : Env) (b : Nat) (cols : Int) (a : Option Addr) (m c : Nat) (rs : List Row) (hr : Fit cols rs) (row col : Nat) (p f g q : Int) (h : hasE rs.length cols row col = 0) : Does Try.prog 29 #[.pointer (some ⟨b, 0, none⟩), .int .i64 row, .int .i64 col, .agg #[.int .i32 p, .int .u8 f, .int .u32 g, .int .u32 q]] E (gridA b cols a m c rs) fun r H' => r = .int .i64 0 ∧ H' = gridA b cols a m c (setC rs row (rs[row]!.cs.set col ⟨p, f, g, q⟩)) := by
  have hh := has_yes h
  have hrow : row < rs.length := by omega
  have hl := hr.at hrow
  refine Does.pure (Sl.litLen (Sl.osl (t := 62) 1 rfl)) fun hm => ?_
  subst hm
  refine Does.conseq (grid_take row hrow) ?_
  refine Does.go (args := [.pointer (some ⟨b, 0, none⟩), .int .i64 row, .int .i64 col, .agg #[.int .i32 p, .int .u8 f, .int .u32 g, .int .u32 q]]) _ _ Try.func29 rfl Try.ntmps29 rfl rfl ?_
  refine Body.seq ?_
  refine Body.region ?_
  refine Ops.s (Stp.box (lk rfl) rfl (fun b7 => ?_)) rfl
  refine Ops.u (Dtu.asg (lk rfl)) rfl ?_
  refine Ops.nil ?_
  refine Then.next ?_
  refine Body.seq ?_
  refine Body.region ?_
  refine Ops.u (Dtu.mv (lk rfl)) rfl ?_
  refine Ops.u (Dtu.mv (lk rfl)) rfl ?_
  refine Ops.u (Dtu.mv (lk rfl)) rfl ?_
  refine Ops.s (Stp.callOwn [1] rfl rfl Try.call80 (lks rfl) (fun E' le hat => ghas_ok E' _ _ _ _ _ _ _) ?_) rfl
  rintro _ _ ⟨rfl, rfl⟩
  refine Ops.u (Dtu.asg (lk rfl)) rfl ?_
  refine Ops.nil ?_
  refine Then.next ?_
  refine Body.seq ?_
  refine Body.seq ?_
  refine Body.region ?_
  refine Ops.u (Dtu.mv (lk rfl)) rfl ?_
  refine Ops.u (Dtu.eql (lk rfl) (lk rfl)) rfl ?_
  refine Ops.nil ?_
  refine Then.next ?_
  refine Body.condP (lk rfl) (fun _ => ?_) (fun hn => absurd (by first | omega | assumption | decide) hn)
  refine Body.draw mixed ?_
  refine AB.u 0 rfl (by decide +kernel) (Dtu.mv (lk rfl)) rfl ?_
  refine AB.u 1 rfl (by decide +kernel) (Dtu.nilck (lk rfl)) rfl ?_
  refine AB.u 2 rfl (by decide +kernel) (Dtu.fld fa61_1 (lk rfl)) rfl ?_
  refine AB.d 3 rfl (by decide +kernel) rfl (Det.ld Try.isAgg59 (lk rfl) (Rd.ow 0 rfl rfl)) rfl ?_
  refine AB.u 4 rfl (by decide +kernel) (Dtu.mv (lk rfl)) rfl ?_
  refine AB.u 5 rfl (by decide +kernel) (Dtu.ix (i := (row)) Try.underlying59 Try.sizeOf62 (Sl.osl 2 rfl) (lk rfl) (lk rfl) (by omega) (by omega)) rfl ?_
  refine AB.d 6 rfl (by decide +kernel) rfl (Det.ld Try.isAgg62 (lk rfl) (Rd.sl (Sl.osl 2 rfl) (gm (by omega)))) rfl ?_
  refine AB.u 7 rfl (by decide +kernel) (Dtu.mv (lk rfl)) rfl ?_
  refine AB.d 8 rfl (by decide +kernel) rfl (Det.lda Try.isAgg39 Try.sizeOf39 (lk rfl) (Rds.ow (m := 4) 1 rfl rfl) rfl) rfl ?_
  refine AB.u 9 rfl (by decide +kernel) (Dtu.ix (i := (col)) Try.underlying62 Try.sizeOf39 (Sl.osl 3 rfl) (lk rfl) (lk rfl) (by omega) (by omega)) rfl ?_
  refine AB.e 10 rfl (by decide +kernel) (by decide +kernel) (Stp.storeF 3 (en := Cell.enc) (y := ⟨_, _, _, _⟩) (fun _ => rfl) Try.sizeOf39 rfl (lk rfl) (lk rfl) rfl (by omega) (by omega) rfl ?_)
  refine AB.done (by decide +kernel) ?_
  refine Then.next ?_
  refine Body.seq ?_
  refine Body.region ?_
  refine Ops.u (Dtu.mv (lk rfl)) rfl ?_
  refine Ops.u (Dtu.asg (lk rfl)) rfl ?_
  refine Ops.nil ?_
  refine Then.next ?_
  refine Body.ret ?_
  exact ⟨.inr rfl, _, fun w s => grid_put row hrow _ (by simp) w (pk [3, 3, 0, 1] rfl w s), by rw [← h]; rfl, rfl⟩
theorem gline_zero (E : Env) (b : Nat) (cols : Int) (a : Option Addr) (m c : Nat) (row : Int) (h : hasE m cols row 0 ≠ 0) : Does Try.prog 28 #[.pointer (some ⟨b, 0, none⟩), .int .i64 row] E [own b [.int .i64 cols, .slice a m c] 61] fun r H' => r = .tuple #[.slice none 0 0, .int .i64 (hasE m cols row 0)] ∧ H' = [own b [.int .i64 cols, .slice a m c] 61] := by
  refine Does.go (args := [.pointer (some ⟨b, 0, none⟩), .int .i64 row]) _ _ Try.func28 rfl Try.ntmps28 rfl rfl ?_
  refine Body.seq ?_
  refine Body.region ?_
  refine Ops.u (Dtu.asg (lk rfl)) rfl ?_
  refine Ops.u (Dtu.asg (lk rfl)) rfl ?_
  refine Ops.nil ?_
  refine Then.next ?_
  refine Body.seq ?_
  refine Body.seq ?_
  refine Body.region ?_
  refine Ops.u (Dtu.mv (lk rfl)) rfl ?_
  refine Ops.u (Dtu.mv (lk rfl)) rfl ?_
  refine Ops.s (Stp.callOwn [0] rfl rfl Try.call80 (lks rfl) (fun E' le hat => ghas_ok E' _ _ _ _ _ _ _) ?_) rfl
  rintro _ _ ⟨rfl, rfl⟩
  refine Ops.u (Dtu.asg (lk rfl)) rfl ?_
  refine Ops.nil ?_
  refine Then.next ?_
  refine Body.seq ?_
  refine Body.region ?_
  refine Ops.u (Dtu.mv (lk rfl)) rfl ?_
  refine Ops.u (Dtu.neq (lk rfl) (lk rfl)) rfl ?_
  refine Ops.nil ?_
  refine Then.next ?_
  refine Body.condP (lk rfl) (fun _ => ?_) (fun hn => absurd (by first | omega | assumption | decide) hn)
  refine Body.seq ?_
  refine Body.region ?_
  refine Ops.u (Dtu.mv (lk rfl)) rfl ?_
  refine Ops.u (Dtu.asg (lk rfl)) rfl ?_
  refine Ops.u (Dtu.asg (lk rfl)) rfl ?_
  refine Ops.nil ?_
  refine Then.next ?_
  refine Body.ret ?_
  refine Then.ret ?_
  exact ⟨.inr rfl, _, pk [0] rfl, rfl, rfl⟩
theorem gline_ok (E : Env) (b : Nat) (cols : Int) (a : Option Addr) (m c : Nat) (rs : List Row) (hr : Fit cols rs) (row : Nat) (h : hasE rs.length cols row 0 = 0) : Does Try.prog 28 #[.pointer (some ⟨b, 0, none⟩), .int .i64 row] E (gridA b cols a m c rs) fun r H' => ∃ z1 z3, r = .tuple #[.slice z1 rs[row]!.cs.length z3, .int .i64 0] ∧ H' = gridA b cols a m c rs ++ [osl 39 4 (.slice z1 rs[row]!.cs.length z3) rs[row]!.cs.length (rs[row]!.cs.flatMap Cell.enc)] := by
  have hh := has_yes h
  have hrow : row < rs.length := by omega
  have hl := hr.at hrow
  have hc := hr.c
  refine Does.pure (Sl.litLen (Sl.osl (t := 62) 1 rfl)) fun hm => ?_
  subst hm
  refine Does.conseq (grid_take row hrow) ?_
  refine Does.go (args := [.pointer (some ⟨b, 0, none⟩), .int .i64 row]) _ _ Try.func28 rfl Try.ntmps28 rfl rfl ?_
  refine Body.seq ?_
  refine Body.region ?_
  refine Ops.u (Dtu.asg (lk rfl)) rfl ?_
  refine Ops.u (Dtu.asg (lk rfl)) rfl ?_
  refine Ops.nil ?_
  refine Then.next ?_
  refine Body.seq ?_
  refine Body.seq ?_
  refine Body.region ?_
  refine Ops.u (Dtu.mv (lk rfl)) rfl ?_
  refine Ops.u (Dtu.mv (lk rfl)) rfl ?_
  refine Ops.s (Stp.callOwn [0] rfl rfl Try.call80 (lks rfl) (fun E' le hat => ghas_ok E' _ _ _ _ _ _ _) ?_) rfl
  rintro _ _ ⟨rfl, rfl⟩
  refine Ops.u (Dtu.asg (lk rfl)) rfl ?_
  refine Ops.nil ?_
  refine Then.next ?_
  refine Body.seq ?_
  refine Body.region ?_
  refine Ops.u (Dtu.mv (lk rfl)) rfl ?_
  refine Ops.u (Dtu.neq (lk rfl) (lk rfl)) rfl ?_
  refine Ops.nil ?_
  refine Then.next ?_
  refine Body.condP (lk rfl) (fun hy => absurd hy (by first | omega | assumption | decide)) (fun _ => ?_)
  refine Body.skip ?_
  refine Then.next ?_
  refine Body.seq ?_
  refine Body.region ?_
  refine Ops.u (Dtu.mv (lk rfl)) rfl ?_
  refine Ops.u (Dtu.nilck (lk rfl)) rfl ?_
  refine Ops.u (Dtu.fld fa61_1 (lk rfl)) rfl ?_
  refine Ops.d (Det.ld Try.isAgg59 (lk rfl) (Rd.ow 0 rfl rfl)) rfl ?_
  refine Ops.u (Dtu.mv (lk rfl)) rfl ?_
  refine Ops.u (Dtu.ix (i := (row)) Try.underlying59 Try.sizeOf62 (Sl.osl 1 rfl) (lk rfl) (lk rfl) (by omega) (by omega)) rfl ?_
  refine Ops.d (Det.ld Try.isAgg62 (lk rfl) (Rd.sl (Sl.osl 1 rfl) (gm (by omega)))) rfl ?_
  refine Ops.s (Stp.call rfl Try.call84 (lks rfl) (fun E' le hat => cloneC_ok E' _ rs[row]!.cs.length (rs[row]!.cs.flatMap Cell.enc) (by first | exact Sl.mono (by assumption) le | exact Sl.at (hat _ (.head _)) | exact Sl.at (hat _ (.tail _ (.head _))) | exact Sl.at (hat _ (.tail _ (.tail _ (.head _)))) | exact Sl.at (hat _ (.tail _ (.tail _ (.tail _ (.head _))))) | exact Sl.at (hat _ (.tail _ (.tail _ (.tail _ (.tail _ (.head _)))))) | exact Sl.at (hat _ (.tail _ (.tail _ (.tail _ (.tail _ (.tail _ (.head _)))))))) (all_flat (fun _ => rfl) _) (by omega)) ?_) rfl
  rintro _ _ ⟨rfl, ⟨z1, z2, z3, rfl⟩⟩
  refine Ops.pure (Sl.litLen (Sl.osl (t := 39) 0 rfl)) fun hz => ?_
  subst hz
  refine Ops.u (Dtu.asg (lk rfl)) rfl ?_
  refine Ops.u (Dtu.asg (lk rfl)) rfl ?_
  refine Ops.nil ?_
  refine Then.next ?_
  refine Body.ret ?_
  refine ⟨.inr rfl, _, fun w s => ?_, z1, z3, rfl, rfl⟩
  have s2 := grid_putH row hrow _ rfl w (pk [3, 3, 1, 1, 0] rfl w s)
  rw [setC_same hrow] at s2
  exact s2
theorem growsn_ok (E : Env) (b : Nat) (cols : Int) (a : Option Addr) (m c : Nat) : Does Try.prog 32 #[.pointer (some ⟨b, 0, none⟩)] E [own b [.int .i64 cols, .slice a m c] 61] fun r H' => r = .int .i64 m ∧ H' = [own b [.int .i64 cols, .slice a m c] 61] := by
  refine Does.go (args := [.pointer (some ⟨b, 0, none⟩)]) _ _ Try.func32 rfl Try.ntmps32 rfl rfl ?_
  refine Body.seq ?_
  refine Body.region ?_
  refine Ops.u (Dtu.asg (lk rfl)) rfl ?_
  refine Ops.nil ?_
  refine Then.next ?_
  refine Body.seq ?_
  refine Body.seq ?_
  refine Body.region ?_
  refine Ops.u (Dtu.mv (lk rfl)) rfl ?_
  refine Ops.u (Dtu.eqNil Try.underlying23 (lk rfl) (lk rfl)) rfl ?_
  refine Ops.nil ?_
  refine Then.next ?_
  refine Body.condF (lk rfl) ?_
  refine Body.skip ?_
  refine Then.next ?_
  refine Body.seq ?_
  refine Body.region ?_
  refine Ops.u (Dtu.mv (lk rfl)) rfl ?_
  refine Ops.u (Dtu.nilck (lk rfl)) rfl ?_
  refine Ops.u (Dtu.fld fa61_1 (lk rfl)) rfl ?_
  refine Ops.d (Det.ld Try.isAgg59 (lk rfl) (Rd.ow 0 rfl rfl)) rfl ?_
  refine Ops.u (Dtu.len Try.underlying59 (lk rfl)) rfl ?_
  refine Ops.u (Dtu.asg (lk rfl)) rfl ?_
  refine Ops.nil ?_
  refine Then.next ?_
  refine Body.ret ?_
  exact ⟨.inr rfl, _, pk [0] rfl, rfl, rfl⟩
theorem growsn_nil (E : Env) : Does Try.prog 32 #[.pointer none] E [] fun r H' => r = .int .i64 0 ∧ H' = [] := by
  refine Does.go (args := [.pointer none]) _ _ Try.func32 rfl Try.ntmps32 rfl rfl ?_
  refine Body.seq ?_
  refine Body.region ?_
  refine Ops.u (Dtu.asg (lk rfl)) rfl ?_
  refine Ops.nil ?_
  refine Then.next ?_
  refine Body.seq ?_
  refine Body.seq ?_
  refine Body.region ?_
  refine Ops.u (Dtu.mv (lk rfl)) rfl ?_
  refine Ops.u (Dtu.eqNil Try.underlying23 (lk rfl) (lk rfl)) rfl ?_
  refine Ops.nil ?_
  refine Then.next ?_
  refine Body.condT (lk rfl) ?_
  refine Body.seq ?_
  refine Body.region ?_
  refine Ops.u (Dtu.asg (lk rfl)) rfl ?_
  refine Ops.nil ?_
  refine Then.next ?_
  refine Body.ret ?_
  refine Then.ret ?_
  exact ⟨.inr rfl, _, pk [] rfl, rfl, rfl⟩
theorem gcolsn_ok (E : Env) (b : Nat) (cols : Int) (a : Option Addr) (m c : Nat) : Does Try.prog 33 #[.pointer (some ⟨b, 0, none⟩)] E [own b [.int .i64 cols, .slice a m c] 61] fun r H' => r = .int .i64 cols ∧ H' = [own b [.int .i64 cols, .slice a m c] 61] := by
  refine Does.go (args := [.pointer (some ⟨b, 0, none⟩)]) _ _ Try.func33 rfl Try.ntmps33 rfl rfl ?_
  refine Body.seq ?_
  refine Body.region ?_
  refine Ops.u (Dtu.asg (lk rfl)) rfl ?_
  refine Ops.nil ?_
  refine Then.next ?_
  refine Body.seq ?_
  refine Body.seq ?_
  refine Body.region ?_
  refine Ops.u (Dtu.mv (lk rfl)) rfl ?_
  refine Ops.u (Dtu.eqNil Try.underlying23 (lk rfl) (lk rfl)) rfl ?_
  refine Ops.nil ?_
  refine Then.next ?_
  refine Body.condF (lk rfl) ?_
  refine Body.skip ?_
  refine Then.next ?_
  refine Body.seq ?_
  refine Body.region ?_
  refine Ops.u (Dtu.mv (lk rfl)) rfl ?_
  refine Ops.u (Dtu.nilck (lk rfl)) rfl ?_
  refine Ops.u (Dtu.fld fa61_0 (lk rfl)) rfl ?_
  refine Ops.d (Det.ld Try.isAgg3 (lk rfl) (Rd.ow 0 rfl rfl)) rfl ?_
  refine Ops.u (Dtu.asg (lk rfl)) rfl ?_
  refine Ops.nil ?_
  refine Then.next ?_
  refine Body.ret ?_
  exact ⟨.inr rfl, _, pk [0] rfl, rfl, rfl⟩
theorem gcopy_nil (E : Env) : Does Try.prog 34 #[.pointer none] E [] fun r H' => r = .pointer none ∧ H' = [] := by
  refine Does.go (args := [.pointer none]) _ _ Try.func34 rfl Try.ntmps34 rfl rfl ?_
  refine Body.seq ?_
  refine Body.region ?_
  refine Ops.u (Dtu.asg (lk rfl)) rfl ?_
  refine Ops.nil ?_
  refine Then.next ?_
  refine Body.seq ?_
  refine Body.seq ?_
  refine Body.region ?_
  refine Ops.u (Dtu.mv (lk rfl)) rfl ?_
  refine Ops.s (Stp.call rfl Try.call85 (lks rfl) (fun E' le hat => gmade_nil E') ?_) rfl
  rintro _ _ ⟨rfl, rfl⟩
  refine Ops.u (Dtu.not (lk rfl)) rfl ?_
  refine Ops.nil ?_
  refine Then.next ?_
  refine Body.condT (lk rfl) ?_
  refine Body.seq ?_
  refine Body.region ?_
  refine Ops.u (Dtu.asg (lk rfl)) rfl ?_
  refine Ops.nil ?_
  refine Then.next ?_
  refine Body.ret ?_
  refine Then.ret ?_
  exact ⟨.inr rfl, _, pk [] rfl, rfl, rfl⟩
theorem gsame_nil1 (E : Env) (v : Value) : Does Try.prog 35 #[.pointer none, v] E [] fun r H' => r = .bool false ∧ H' = [] := by
  refine Does.go (args := [.pointer none, v]) _ _ Try.func35 rfl Try.ntmps35 rfl rfl ?_
  refine Body.seq ?_
  refine Body.region ?_
  refine Ops.u (Dtu.asg (lk rfl)) rfl ?_
  refine Ops.nil ?_
  refine Then.next ?_
  refine Body.seq ?_
  refine Body.draw mixed ?_
  refine AB.u 0 rfl (by decide +kernel) (Dtu.mv (lk rfl)) rfl ?_
  refine AB.s 1 rfl (by decide +kernel) (by decide +kernel) (Stp.call rfl Try.call85 (lks rfl) (fun E' le hat => gmade_nil E') ?_) rfl
  rintro _ _ ⟨rfl, rfl⟩
  refine AB.u 2 rfl (by decide +kernel) (Dtu.mv (lk rfl)) rfl ?_
  refine AB.gn 3 rfl (by decide +kernel) rfl rfl rfl rfl rfl ?_
  refine AB.gn 4 rfl (by decide +kernel) rfl rfl rfl rfl rfl ?_
  refine AB.u 5 rfl (by decide +kernel) (Dtu.pickF (lk rfl) (lk rfl)) rfl ?_
  refine AB.u 6 rfl (by decide +kernel) (Dtu.mv (lk rfl)) rfl ?_
  refine AB.gn 7 rfl (by decide +kernel) rfl rfl rfl rfl rfl ?_
  refine AB.gn 8 rfl (by decide +kernel) rfl rfl rfl rfl rfl ?_
  refine AB.gn 9 rfl (by decide +kernel) rfl rfl rfl rfl rfl ?_
  refine AB.gn 10 rfl (by decide +kernel) rfl rfl rfl rfl rfl ?_
  refine AB.gn 11 rfl (by decide +kernel) rfl rfl rfl rfl rfl ?_
  refine AB.gn 12 rfl (by decide +kernel) rfl rfl rfl rfl rfl ?_
  refine AB.gn 13 rfl (by decide +kernel) rfl rfl rfl rfl rfl ?_
  refine AB.gn 14 rfl (by decide +kernel) rfl rfl rfl rfl rfl ?_
  refine AB.gn 15 rfl (by decide +kernel) rfl rfl rfl rfl rfl ?_
  refine AB.u 16 rfl (by decide +kernel) (Dtu.pickF (lk rfl) (lk rfl)) rfl ?_
  refine AB.u 17 rfl (by decide +kernel) (Dtu.mv (lk rfl)) rfl ?_
  refine AB.gn 18 rfl (by decide +kernel) rfl rfl rfl rfl rfl ?_
  refine AB.gn 19 rfl (by decide +kernel) rfl rfl rfl rfl rfl ?_
  refine AB.gn 20 rfl (by decide +kernel) rfl rfl rfl rfl rfl ?_
  refine AB.gn 21 rfl (by decide +kernel) rfl rfl rfl rfl rfl ?_
  refine AB.gn 22 rfl (by decide +kernel) rfl rfl rfl rfl rfl ?_
  refine AB.gn 23 rfl (by decide +kernel) rfl rfl rfl rfl rfl ?_
  refine AB.gn 24 rfl (by decide +kernel) rfl rfl rfl rfl rfl ?_
  refine AB.gn 25 rfl (by decide +kernel) rfl rfl rfl rfl rfl ?_
  refine AB.gn 26 rfl (by decide +kernel) rfl rfl rfl rfl rfl ?_
  refine AB.u 27 rfl (by decide +kernel) (Dtu.pickF (lk rfl) (lk rfl)) rfl ?_
  refine AB.u 28 rfl (by decide +kernel) (Dtu.asg (lk rfl)) rfl ?_
  refine AB.done (by decide +kernel) ?_
  refine Then.next ?_
  refine Body.ret ?_
  exact ⟨.inr rfl, _, pk [] rfl, rfl, rfl⟩
theorem gsame_nil2 (E : Env) (b : Nat) (cols : Int) (a : Option Addr) (m c : Nat) (hm : 0 < m) : Does Try.prog 35 #[.pointer (some ⟨b, 0, none⟩), .pointer none] E [own b [.int .i64 cols, .slice a m c] 61] fun r H' => r = .bool false ∧ H' = [own b [.int .i64 cols, .slice a m c] 61] := by
  refine Does.go (args := [.pointer (some ⟨b, 0, none⟩), .pointer none]) _ _ Try.func35 rfl Try.ntmps35 rfl rfl ?_
  refine Body.seq ?_
  refine Body.region ?_
  refine Ops.u (Dtu.asg (lk rfl)) rfl ?_
  refine Ops.nil ?_
  refine Then.next ?_
  refine Body.seq ?_
  refine Body.draw mixed ?_
  refine AB.u 0 rfl (by decide +kernel) (Dtu.mv (lk rfl)) rfl ?_
  refine AB.s 1 rfl (by decide +kernel) (by decide +kernel) (Stp.callOwn [0] rfl rfl Try.call85 (lks rfl) (fun E' le hat => gmade_ok E' _ _ _ _ _) ?_) rfl
  rintro _ _ ⟨rfl, rfl⟩
  refine AB.u 2 rfl (by decide +kernel) (Dtu.mv (lk rfl)) rfl ?_
  refine AB.decP 7 rfl (fun _ => ?_) (fun hn => absurd (by first | omega | assumption | decide) hn)
  refine AB.gu 3 rfl (by decide +kernel) rfl rfl rfl (Dtu.mv (lk rfl)) rfl ?_
  refine AB.gs 4 rfl (by decide +kernel) (by decide +kernel) rfl rfl rfl (Stp.call rfl Try.call85 (lks rfl) (fun E' le hat => gmade_nil E') ?_) rfl
  rintro _ _ ⟨rfl, rfl⟩
  refine AB.u 5 rfl (by decide +kernel) (Dtu.pickT (lk rfl) (lk rfl)) rfl ?_
  refine AB.u 6 rfl (by decide +kernel) (Dtu.mv (lk rfl)) rfl ?_
  refine AB.gn 7 rfl (by decide +kernel) rfl rfl rfl rfl rfl ?_
  refine AB.gn 8 rfl (by decide +kernel) rfl rfl rfl rfl rfl ?_
  refine AB.gn 9 rfl (by decide +kernel) rfl rfl rfl rfl rfl ?_
  refine AB.gn 10 rfl (by decide +kernel) rfl rfl rfl rfl rfl ?_
  refine AB.gn 11 rfl (by decide +kernel) rfl rfl rfl rfl rfl ?_
  refine AB.gn 12 rfl (by decide +kernel) rfl rfl rfl rfl rfl ?_
  refine AB.gn 13 rfl (by decide +kernel) rfl rfl rfl rfl rfl ?_
  refine AB.gn 14 rfl (by decide +kernel) rfl rfl rfl rfl rfl ?_
  refine AB.gn 15 rfl (by decide +kernel) rfl rfl rfl rfl rfl ?_
  refine AB.u 16 rfl (by decide +kernel) (Dtu.pickF (lk rfl) (lk rfl)) rfl ?_
  refine AB.u 17 rfl (by decide +kernel) (Dtu.mv (lk rfl)) rfl ?_
  refine AB.gn 18 rfl (by decide +kernel) rfl rfl rfl rfl rfl ?_
  refine AB.gn 19 rfl (by decide +kernel) rfl rfl rfl rfl rfl ?_
  refine AB.gn 20 rfl (by decide +kernel) rfl rfl rfl rfl rfl ?_
  refine AB.gn 21 rfl (by decide +kernel) rfl rfl rfl rfl rfl ?_
  refine AB.gn 22 rfl (by decide +kernel) rfl rfl rfl rfl rfl ?_
  refine AB.gn 23 rfl (by decide +kernel) rfl rfl rfl rfl rfl ?_
  refine AB.gn 24 rfl (by decide +kernel) rfl rfl rfl rfl rfl ?_
  refine AB.gn 25 rfl (by decide +kernel) rfl rfl rfl rfl rfl ?_
  refine AB.gn 26 rfl (by decide +kernel) rfl rfl rfl rfl rfl ?_
  refine AB.u 27 rfl (by decide +kernel) (Dtu.pickF (lk rfl) (lk rfl)) rfl ?_
  refine AB.u 28 rfl (by decide +kernel) (Dtu.asg (lk rfl)) rfl ?_
  refine AB.done (by decide +kernel) ?_
  refine Then.next ?_
  refine Body.ret ?_
  exact ⟨.inr rfl, _, pk [0] rfl, rfl, rfl⟩
theorem gfill_zero (E : Env) (b : Nat) (cols : Int) (a : Option Addr) (m c : Nat) (row x y : Int) (p f g q : Int) (h : hasE m cols row 0 ≠ 0) : Does Try.prog 30 #[.pointer (some ⟨b, 0, none⟩), .int .i64 row, .int .i64 x, .int .i64 y, .agg #[.int .i32 p, .int .u8 f, .int .u32 g, .int .u32 q]] E [own b [.int .i64 cols, .slice a m c] 61] fun r H' => r = .int .i64 (hasE m cols row 0) ∧ H' = [own b [.int .i64 cols, .slice a m c] 61] := by
  refine Does.go (args := [.pointer (some ⟨b, 0, none⟩), .int .i64 row, .int .i64 x, .int .i64 y, .agg #[.int .i32 p, .int .u8 f, .int .u32 g, .int .u32 q]]) _ _ Try.func30 rfl Try.ntmps30 rfl rfl ?_
  refine Body.seq ?_
  refine Body.region ?_
  refine Ops.s (Stp.box (lk rfl) rfl (fun b9 => ?_)) rfl
  refine Ops.u (Dtu.asg (lk rfl)) rfl ?_
  refine Ops.nil ?_
  refine Then.next ?_
  refine Body.seq ?_
  refine Body.seq ?_
  refine Body.region ?_
  refine Ops.u (Dtu.mv (lk rfl)) rfl ?_
  refine Ops.u (Dtu.mv (lk rfl)) rfl ?_
  refine Ops.s (Stp.callOwn [1] rfl rfl Try.call80 (lks rfl) (fun E' le hat => ghas_ok E' _ _ _ _ _ _ _) ?_) rfl
  rintro _ _ ⟨rfl, rfl⟩
  refine Ops.u (Dtu.asg (lk rfl)) rfl ?_
  refine Ops.nil ?_
  refine Then.next ?_
  refine Body.seq ?_
  refine Body.region ?_
  refine Ops.u (Dtu.mv (lk rfl)) rfl ?_
  refine Ops.u (Dtu.neq (lk rfl) (lk rfl)) rfl ?_
  refine Ops.nil ?_
  refine Then.next ?_
  refine Body.condP (lk rfl) (fun _ => ?_) (fun hn => absurd (by first | omega | assumption | decide) hn)
  refine Body.seq ?_
  refine Body.region ?_
  refine Ops.u (Dtu.mv (lk rfl)) rfl ?_
  refine Ops.u (Dtu.asg (lk rfl)) rfl ?_
  refine Ops.nil ?_
  refine Then.next ?_
  refine Body.ret ?_
  refine Then.ret ?_
  exact ⟨.inr rfl, _, pk [0] rfl, rfl, rfl⟩
theorem gup_nil (E : Env) (t u n : Int) (p f g q : Int) : Does Try.prog 23 #[.pointer none, .int .i64 t, .int .i64 u, .int .i64 n, .agg #[.int .i32 p, .int .u8 f, .int .u32 g, .int .u32 q]] E [] fun r H' => r = .int .i64 6 ∧ H' = [] := by
  refine Does.go (args := [.pointer none, .int .i64 t, .int .i64 u, .int .i64 n, .agg #[.int .i32 p, .int .u8 f, .int .u32 g, .int .u32 q]]) _ _ Try.func23 rfl Try.ntmps23 rfl rfl ?_
  refine Body.seq ?_
  refine Body.region ?_
  refine Ops.s (Stp.box (lk rfl) rfl (fun b9 => ?_)) rfl
  refine Ops.u (Dtu.asg (lk rfl)) rfl ?_
  refine Ops.nil ?_
  refine Then.next ?_
  refine Body.seq ?_
  refine Body.seq ?_
  refine Body.region ?_
  refine Ops.u (Dtu.mv (lk rfl)) rfl ?_
  refine Ops.u (Dtu.mv (lk rfl)) rfl ?_
  refine Ops.u (Dtu.mv (lk rfl)) rfl ?_
  refine Ops.u (Dtu.mv (lk rfl)) rfl ?_
  refine Ops.s (Stp.call rfl Try.call82 (lks rfl) (fun E' le hat => grows_nil E' _ _ _) ?_) rfl
  rintro _ _ ⟨rfl, rfl⟩
  refine Ops.u (Dtu.asg (lk rfl)) rfl ?_
  refine Ops.nil ?_
  refine Then.next ?_
  refine Body.seq ?_
  refine Body.region ?_
  refine Ops.u (Dtu.mv (lk rfl)) rfl ?_
  refine Ops.u (Dtu.neq (lk rfl) (lk rfl)) rfl ?_
  refine Ops.nil ?_
  refine Then.next ?_
  refine Body.condP (lk rfl) (fun _ => ?_) (fun hn => absurd (by first | omega | assumption | decide) hn)
  refine Body.seq ?_
  refine Body.region ?_
  refine Ops.u (Dtu.mv (lk rfl)) rfl ?_
  refine Ops.u (Dtu.asg (lk rfl)) rfl ?_
  refine Ops.nil ?_
  refine Then.next ?_
  refine Body.ret ?_
  refine Then.ret ?_
  exact ⟨.inr rfl, _, pk [] rfl, rfl, rfl⟩
theorem gup_no (E : Env) (b : Nat) (cols : Int) (a : Option Addr) (m c : Nat) (t u n : Int) (p f g q : Int) (h : rowsE m t u n ≠ 0) : Does Try.prog 23 #[.pointer (some ⟨b, 0, none⟩), .int .i64 t, .int .i64 u, .int .i64 n, .agg #[.int .i32 p, .int .u8 f, .int .u32 g, .int .u32 q]] E [own b [.int .i64 cols, .slice a m c] 61] fun r H' => r = .int .i64 (rowsE m t u n) ∧ H' = [own b [.int .i64 cols, .slice a m c] 61] := by
  refine Does.go (args := [.pointer (some ⟨b, 0, none⟩), .int .i64 t, .int .i64 u, .int .i64 n, .agg #[.int .i32 p, .int .u8 f, .int .u32 g, .int .u32 q]]) _ _ Try.func23 rfl Try.ntmps23 rfl rfl ?_
  refine Body.seq ?_
  refine Body.region ?_
  refine Ops.s (Stp.box (lk rfl) rfl (fun b9 => ?_)) rfl
  refine Ops.u (Dtu.asg (lk rfl)) rfl ?_
  refine Ops.nil ?_
  refine Then.next ?_
  refine Body.seq ?_
  refine Body.seq ?_
  refine Body.region ?_
  refine Ops.u (Dtu.mv (lk rfl)) rfl ?_
  refine Ops.u (Dtu.mv (lk rfl)) rfl ?_
  refine Ops.u (Dtu.mv (lk rfl)) rfl ?_
  refine Ops.u (Dtu.mv (lk rfl)) rfl ?_
  refine Ops.s (Stp.callOwn [1] rfl rfl Try.call82 (lks rfl) (fun E' le hat => grows_ok E' _ _ _ _ _ _ _ _) ?_) rfl
  rintro _ _ ⟨rfl, rfl⟩
  refine Ops.u (Dtu.asg (lk rfl)) rfl ?_
  refine Ops.nil ?_
  refine Then.next ?_
  refine Body.seq ?_
  refine Body.region ?_
  refine Ops.u (Dtu.mv (lk rfl)) rfl ?_
  refine Ops.u (Dtu.neq (lk rfl) (lk rfl)) rfl ?_
  refine Ops.nil ?_
  refine Then.next ?_
  refine Body.condP (lk rfl) (fun _ => ?_) (fun hn => absurd (by first | omega | assumption | decide) hn)
  refine Body.seq ?_
  refine Body.region ?_
  refine Ops.u (Dtu.mv (lk rfl)) rfl ?_
  refine Ops.u (Dtu.asg (lk rfl)) rfl ?_
  refine Ops.nil ?_
  refine Then.next ?_
  refine Body.ret ?_
  refine Then.ret ?_
  exact ⟨.inr rfl, _, pk [0] rfl, rfl, rfl⟩
theorem gdown_no (E : Env) (b : Nat) (cols : Int) (a : Option Addr) (m c : Nat) (t u n : Int) (p f g q : Int) (h : rowsE m t u n ≠ 0) : Does Try.prog 25 #[.pointer (some ⟨b, 0, none⟩), .int .i64 t, .int .i64 u, .int .i64 n, .agg #[.int .i32 p, .int .u8 f, .int .u32 g, .int .u32 q]] E [own b [.int .i64 cols, .slice a m c] 61] fun r H' => r = .int .i64 (rowsE m t u n) ∧ H' = [own b [.int .i64 cols, .slice a m c] 61] := by
  refine Does.go (args := [.pointer (some ⟨b, 0, none⟩), .int .i64 t, .int .i64 u, .int .i64 n, .agg #[.int .i32 p, .int .u8 f, .int .u32 g, .int .u32 q]]) _ _ Try.func25 rfl Try.ntmps25 rfl rfl ?_
  refine Body.seq ?_
  refine Body.region ?_
  refine Ops.s (Stp.box (lk rfl) rfl (fun b9 => ?_)) rfl
  refine Ops.u (Dtu.asg (lk rfl)) rfl ?_
  refine Ops.nil ?_
  refine Then.next ?_
  refine Body.seq ?_
  refine Body.seq ?_
  refine Body.region ?_
  refine Ops.u (Dtu.mv (lk rfl)) rfl ?_
  refine Ops.u (Dtu.mv (lk rfl)) rfl ?_
  refine Ops.u (Dtu.mv (lk rfl)) rfl ?_
  refine Ops.u (Dtu.mv (lk rfl)) rfl ?_
  refine Ops.s (Stp.callOwn [1] rfl rfl Try.call82 (lks rfl) (fun E' le hat => grows_ok E' _ _ _ _ _ _ _ _) ?_) rfl
  rintro _ _ ⟨rfl, rfl⟩
  refine Ops.u (Dtu.asg (lk rfl)) rfl ?_
  refine Ops.nil ?_
  refine Then.next ?_
  refine Body.seq ?_
  refine Body.region ?_
  refine Ops.u (Dtu.mv (lk rfl)) rfl ?_
  refine Ops.u (Dtu.neq (lk rfl) (lk rfl)) rfl ?_
  refine Ops.nil ?_
  refine Then.next ?_
  refine Body.condP (lk rfl) (fun _ => ?_) (fun hn => absurd (by first | omega | assumption | decide) hn)
  refine Body.seq ?_
  refine Body.region ?_
  refine Ops.u (Dtu.mv (lk rfl)) rfl ?_
  refine Ops.u (Dtu.asg (lk rfl)) rfl ?_
  refine Ops.nil ?_
  refine Then.next ?_
  refine Body.ret ?_
  refine Then.ret ?_
  exact ⟨.inr rfl, _, pk [0] rfl, rfl, rfl⟩
theorem gcells_nil (E : Env) (t u n : Int) : Does Try.prog 83 #[.pointer none, .int .i64 t, .int .i64 u, .int .i64 n] E [] fun r H' => r = .int .i64 6 ∧ H' = [] := by
  refine Does.go (args := [.pointer none, .int .i64 t, .int .i64 u, .int .i64 n]) _ _ Try.func83 rfl Try.ntmps83 rfl rfl ?_
  refine Body.seq ?_
  refine Body.region ?_
  refine Ops.u (Dtu.asg (lk rfl)) rfl ?_
  refine Ops.nil ?_
  refine Then.next ?_
  refine Body.seq ?_
  refine Body.region ?_
  refine Ops.u (Dtu.mv (lk rfl)) rfl ?_
  refine Ops.u (Dtu.mv (lk rfl)) rfl ?_
  refine Ops.u (Dtu.mv (lk rfl)) rfl ?_
  refine Ops.s (Stp.call rfl Try.call80 (lks rfl) (fun E' le hat => ghas_nil E' _ _) ?_) rfl
  rintro _ _ ⟨rfl, rfl⟩
  refine Ops.u (Dtu.asg (lk rfl)) rfl ?_
  refine Ops.nil ?_
  refine Then.next ?_
  refine Body.seq ?_
  refine Body.seq ?_
  refine Body.region ?_
  refine Ops.u (Dtu.mv (lk rfl)) rfl ?_
  refine Ops.u (Dtu.eql (lk rfl) (lk rfl)) rfl ?_
  refine Ops.u (Dtu.mv (lk rfl)) rfl ?_
  refine Ops.decP 16 rfl (fun hy => absurd hy (by first | omega | assumption | decide)) (fun _ => ?_)
  refine Ops.gn rfl rfl rfl rfl rfl ?_
  refine Ops.gn rfl rfl rfl rfl rfl ?_
  refine Ops.u (Dtu.pickF (lk rfl) (lk rfl)) rfl ?_
  refine Ops.nil ?_
  refine Then.next ?_
  refine Body.condF (lk rfl) ?_
  refine Body.skip ?_
  refine Then.next ?_
  refine Body.seq ?_
  refine Body.region ?_
  refine Ops.u (Dtu.mv (lk rfl)) rfl ?_
  refine Ops.u (Dtu.asg (lk rfl)) rfl ?_
  refine Ops.nil ?_
  refine Then.next ?_
  refine Body.ret ?_
  exact ⟨.inr rfl, _, pk [] rfl, rfl, rfl⟩
theorem ginsert_nil (E : Env) (t u n : Int) (p f g q : Int) : Does Try.prog 26 #[.pointer none, .int .i64 t, .int .i64 u, .int .i64 n, .agg #[.int .i32 p, .int .u8 f, .int .u32 g, .int .u32 q]] E [] fun r H' => r = .int .i64 6 ∧ H' = [] := by
  refine Does.go (args := [.pointer none, .int .i64 t, .int .i64 u, .int .i64 n, .agg #[.int .i32 p, .int .u8 f, .int .u32 g, .int .u32 q]]) _ _ Try.func26 rfl Try.ntmps26 rfl rfl ?_
  refine Body.seq ?_
  refine Body.region ?_
  refine Ops.s (Stp.box (lk rfl) rfl (fun b9 => ?_)) rfl
  refine Ops.u (Dtu.asg (lk rfl)) rfl ?_
  refine Ops.nil ?_
  refine Then.next ?_
  refine Body.seq ?_
  refine Body.seq ?_
  refine Body.region ?_
  refine Ops.u (Dtu.mv (lk rfl)) rfl ?_
  refine Ops.u (Dtu.mv (lk rfl)) rfl ?_
  refine Ops.u (Dtu.mv (lk rfl)) rfl ?_
  refine Ops.u (Dtu.mv (lk rfl)) rfl ?_
  refine Ops.s (Stp.call rfl Try.call83 (lks rfl) (fun E' le hat => gcells_nil E' _ _ _) ?_) rfl
  rintro _ _ ⟨rfl, rfl⟩
  refine Ops.u (Dtu.asg (lk rfl)) rfl ?_
  refine Ops.nil ?_
  refine Then.next ?_
  refine Body.seq ?_
  refine Body.region ?_
  refine Ops.u (Dtu.mv (lk rfl)) rfl ?_
  refine Ops.u (Dtu.neq (lk rfl) (lk rfl)) rfl ?_
  refine Ops.nil ?_
  refine Then.next ?_
  refine Body.condP (lk rfl) (fun _ => ?_) (fun hn => absurd (by first | omega | assumption | decide) hn)
  refine Body.seq ?_
  refine Body.region ?_
  refine Ops.u (Dtu.mv (lk rfl)) rfl ?_
  refine Ops.u (Dtu.asg (lk rfl)) rfl ?_
  refine Ops.nil ?_
  refine Then.next ?_
  refine Body.ret ?_
  refine Then.ret ?_
  exact ⟨.inr rfl, _, pk [] rfl, rfl, rfl⟩
theorem gresize_zero (E : Env) (b : Nat) (cols : Int) (a : Option Addr) (c : Nat) (t u : Int) (p f g q : Int) : Does Try.prog 31 #[.pointer (some ⟨b, 0, none⟩), .int .i64 t, .int .i64 u, .agg #[.int .i32 p, .int .u8 f, .int .u32 g, .int .u32 q]] E [own b [.int .i64 cols, .slice a 0 c] 61] fun r H' => r = .int .i64 6 ∧ H' = [own b [.int .i64 cols, .slice a 0 c] 61] := by
  refine Does.go (args := [.pointer (some ⟨b, 0, none⟩), .int .i64 t, .int .i64 u, .agg #[.int .i32 p, .int .u8 f, .int .u32 g, .int .u32 q]]) _ _ Try.func31 rfl Try.ntmps31 rfl rfl ?_
  refine Body.seq ?_
  refine Body.region ?_
  refine Ops.s (Stp.box (lk rfl) rfl (fun b7 => ?_)) rfl
  refine Ops.u (Dtu.asg (lk rfl)) rfl ?_
  refine Ops.nil ?_
  refine Then.next ?_
  refine Body.seq ?_
  refine Body.block ?_
  refine Body.seq ?_
  refine Body.region ?_
  refine Ops.u (Dtu.mv (lk rfl)) rfl ?_
  refine Ops.s (Stp.callOwn [1] rfl rfl Try.call85 (lks rfl) (fun E' le hat => gmade_ok E' _ _ _ _ _) ?_) rfl
  rintro _ _ ⟨rfl, rfl⟩
  refine Ops.u (Dtu.notP (lk rfl)) rfl ?_
  refine Ops.u (Dtu.asg (lk rfl)) rfl ?_
  refine Ops.nil ?_
  refine Then.next ?_
  refine Body.condP (lk rfl) (fun _ => ?_) (fun hn => absurd (by first | omega | assumption | decide) hn)
  refine Body.seq ?_
  refine Body.region ?_
  refine Ops.u (Dtu.asg (lk rfl)) rfl ?_
  refine Ops.nil ?_
  refine Then.next ?_
  refine Body.ret ?_
  refine Blk.ret ?_
  refine Then.ret ?_
  exact ⟨.inr rfl, _, pk [0] rfl, rfl, rfl⟩
end Go.Proofs.Ytpmapedhigjalaa
end
section
/- A grid: rows that move, in plain words. -/
namespace Go.Proofs.Ytpmapedhigjalaa
set_option maxRecDepth 100000
set_option linter.unusedVariables false
set_option linter.unusedSimpArgs false
open Go.Sx

/-- the headers while new lines come in behind -/
def hdU (t L N : Nat) (rs z : List Row) : List Row := rs.take t ++ ((rs.drop (t + N)).take (L - N) ++ (z ++ rs.drop (t + (L - N) + z.length)))
theorem hdU_start {t L N : Nat} {rs : List Row} (hN : N ≤ L) (hL : t + L ≤ rs.length) :
    rs.take t ++ ((((rs.drop t).take L).drop N).take (L - N)).take ((L - N).min L) ++ rs.drop (t + (L - N).min L) = hdU t L N rs [] := by
  have e : (L - N).min L = L - N := Nat.min_eq_left (by omega)
  rw [e]
  unfold hdU
  simp only [List.length_nil, Nat.add_zero, List.nil_append, List.append_assoc, List.drop_take, List.drop_drop, List.take_take, Nat.min_self]
theorem hdU_len {t L N : Nat} {rs z : List Row} (hN : N ≤ L) (hL : t + L ≤ rs.length) (hz : z.length ≤ N) : (hdU t L N rs z).length = rs.length := by
  unfold hdU
  simp only [List.length_append, List.length_take, List.length_drop]
  omega
theorem hdU_set {t L N : Nat} {rs z : List Row} (r : Row) (hN : N ≤ L) (hL : t + L ≤ rs.length) (hz : z.length < N) : (hdU t L N rs z).set (t + (L - N) + z.length) r = hdU t L N rs (z ++ [r]) := by
  unfold hdU
  have l1 : (rs.take t).length = t := by simp; omega
  have l2 : ((rs.drop (t + N)).take (L - N)).length = L - N := by simp; omega
  rw [List.set_append_right _ _ (by omega), l1, List.set_append_right _ _ (by omega), l2, List.set_append_right _ _ (by omega)]
  rw [show t + (L - N) + z.length - t - (L - N) - z.length = 0 by omega]
  have hd : rs.drop (t + (L - N) + z.length) = rs[t + (L - N) + z.length]'(by omega) :: rs.drop (t + (L - N) + z.length + 1) := List.drop_eq_getElem_cons (by omega)
  rw [hd, List.set_cons_zero, List.length_append, List.append_assoc]
  rfl
def rsU (t L N : Nat) (rs z : List Row) : List Row := rs.take t ++ ((rs.drop (t + N)).take (L - N) ++ (z ++ rs.drop (t + L)))
theorem hdU_end {t L N : Nat} {rs z : List Row} (hN : N ≤ L) (hz : z.length = N) : hdU t L N rs z = rsU t L N rs z := by
  unfold hdU rsU
  rw [show t + (L - N) + z.length = t + L by omega]
theorem split4 {α : Type} (t L N : Nat) (rs : List α) (hN : N ≤ L) : rs = rs.take t ++ ((rs.drop t).take N ++ ((rs.drop (t + N)).take (L - N) ++ rs.drop (t + L))) := by
  have e1 : (rs.drop (t + N)).take (L - N) ++ rs.drop (t + L) = rs.drop (t + N) := by
    have e2 : rs.drop (t + L) = (rs.drop (t + N)).drop (L - N) := by rw [List.drop_drop]; congr 1; omega
    rw [e2, List.take_append_drop]
  have e3 : rs.drop (t + N) = (rs.drop t).drop N := by rw [List.drop_drop]
  rw [e1, e3, List.take_append_drop, List.take_append_drop]
theorem perm6 {α : Type} (A X M D Z H : List α) : ((A ++ (X ++ (M ++ D))) ++ (Z ++ H)).Perm ((A ++ (M ++ (Z ++ D))) ++ H ++ X) := by
  classical
  rw [List.perm_iff_count]
  intro x
  simp only [List.count_append]
  omega
theorem many_move {E : Env} {t L N : Nat} {rs z : List Row} {H : List HProp} {w : World} (hN : N ≤ L) (s : St E (many (rs.map Row.own) :: many (z.map Row.own) :: H) w) : St E (many ((rsU t L N rs z).map Row.own) :: H) w := by
  have s1 := many_iff.1 s
  have s2 : St E (rs.map Row.own ++ (z.map Row.own ++ H)) w := by
    have := s1.perm (List.perm_middle (a := many (z.map Row.own)))
    have := many_iff.1 this
    refine this.perm ?_
    classical
    rw [List.perm_iff_count]
    intro x
    simp only [List.count_append]
    omega
  have e := congrArg (List.map Row.own) (split4 t L N rs hN)
  simp only [List.map_append] at e
  rw [e] at s2
  have s3 := (s2.perm (perm6 _ _ _ _ _ _)).drop_tail
  refine many_iff.2 ?_
  simp only [rsU, List.map_append]
  exact s3
theorem rsU_len {t L N : Nat} {rs z : List Row} (hN : N ≤ L) (hL : t + L ≤ rs.length) (hz : z.length = N) : (rsU t L N rs z).length = rs.length := by
  rw [← hdU_end hN hz, hdU_len hN hL (by omega)]
end Go.Proofs.Ytpmapedhigjalaa
end
section
/- A grid: Up. -/
namespace Go.Proofs.Ytpmapedhigjalaa
set_option maxRecDepth 100000
set_option linter.unusedVariables false
set_option linter.unusedSimpArgs false
open Go.Sx

theorem rows_yes {m : Nat} {t u n : Int} (h : rowsE m t u n = 0) : 0 < m ∧ 0 ≤ t ∧ t ≤ u ∧ u < m ∧ 0 ≤ n := by
  unfold rowsE at h; (repeat' split at h) <;> omega
theorem gup_ok (E : Env) (b : Nat) (cols : Int) (a : Option Addr) (m c : Nat) (rs : List Row) (hr : Fit cols rs) (t u n : Nat) (p f g q : Int) (h : rowsE rs.length t u n = 0) : Does Try.prog 23 #[.pointer (some ⟨b, 0, none⟩), .int .i64 t, .int .i64 u, .int .i64 n, .agg #[.int .i32 p, .int .u8 f, .int .u32 g, .int .u32 q]] E (gridA b cols a m c rs) fun r H' => ∃ z, z.length = min n (u + 1 - t) ∧ (∀ x ∈ z, x.cs = List.replicate cols.toNat ⟨p, f, g, q⟩) ∧ r = .int .i64 0 ∧ H' = gridA b cols a m c (rsU t (u + 1 - t) (min n (u + 1 - t)) rs z) := by
  have hh := rows_yes h
  have hc := hr.c
  have hn := hr.n
  refine Does.pure (Sl.litLen (Sl.osl (t := 62) 1 rfl)) fun hm => ?_
  subst hm
  refine Does.go (args := [.pointer (some ⟨b, 0, none⟩), .int .i64 t, .int .i64 u, .int .i64 n, .agg #[.int .i32 p, .int .u8 f, .int .u32 g, .int .u32 q]]) _ _ Try.func23 rfl Try.ntmps23 rfl rfl ?_
  refine Body.seq ?_
  refine Body.region ?_
  refine Ops.s (Stp.box (lk rfl) rfl (fun b9 => ?_)) rfl
  refine Ops.u (Dtu.asg (lk rfl)) rfl ?_
  refine Ops.nil ?_
  refine Then.next ?_
  refine Body.seq ?_
  refine Body.seq ?_
  refine Body.region ?_
  refine Ops.u (Dtu.mv (lk rfl)) rfl ?_
  refine Ops.u (Dtu.mv (lk rfl)) rfl ?_
  refine Ops.u (Dtu.mv (lk rfl)) rfl ?_
  refine Ops.u (Dtu.mv (lk rfl)) rfl ?_
  refine Ops.s (Stp.callOwn [1] rfl rfl Try.call82 (lks rfl) (fun E' le hat => grows_ok E' _ _ _ _ _ _ _ _) ?_) rfl
  rintro _ _ ⟨rfl, rfl⟩
  refine Ops.u (Dtu.asg (lk rfl)) rfl ?_
  refine Ops.nil ?_
  refine Then.next ?_
  refine Body.seq ?_
  refine Body.region ?_
  refine Ops.u (Dtu.mv (lk rfl)) rfl ?_
  refine Ops.u (Dtu.neq (lk rfl) (lk rfl)) rfl ?_
  refine Ops.nil ?_
  refine Then.next ?_
  refine Body.condP (lk rfl) (fun hy => absurd hy (by first | omega | assumption | decide)) (fun _ => ?_)
  refine Body.skip ?_
  refine Then.next ?_
  refine Body.seq ?_
  refine Body.region ?_
  refine Ops.u (Dtu.mv (lk rfl)) rfl ?_
  refine Ops.u (Dtu.nilck (lk rfl)) rfl ?_
  refine Ops.u (Dtu.fld fa61_1 (lk rfl)) rfl ?_
  refine Ops.d (Det.ld Try.isAgg59 (lk rfl) (Rd.ow 0 rfl rfl)) rfl ?_
  refine Ops.u (Dtu.mv (lk rfl)) rfl ?_
  refine Ops.u (Dtu.mv (lk rfl)) rfl ?_
  refine Ops.u (Dtu.add (lk rfl) (lk rfl) (w64 (by omega) (by omega))) rfl ?_
  refine Ops.u (Dtu.slLH (t) (u + 1) Try.underlying59 Try.sizeOf62 (Sl.osl 2 rfl) (lk rfl) (lk rfl) (lk rfl) (by omega) (by omega) (by omega) (by omega)) rfl ?_
  refine Ops.u (Dtu.asg (lk rfl)) rfl ?_
  refine Ops.nil ?_
  refine Then.next ?_
  refine Body.seq ?_
  refine Body.region ?_
  refine Ops.u (Dtu.mv (lk rfl)) rfl ?_
  refine Ops.u (Dtu.mv (lk rfl)) rfl ?_
  refine Ops.u (Dtu.lenS Try.underlying59 (Sl.subM (Sl.osl 2 rfl) _ _ (by omega) (by omega)) (lk rfl)) rfl ?_
  refine Ops.u (Dtu.min (lk rfl) (lk rfl)) rfl ?_
  refine Ops.u (Dtu.asg (lk rfl)) rfl ?_
  refine Ops.nil ?_
  refine Then.next ?_
  refine Body.seq ?_
  refine Body.region ?_
  refine Ops.u (Dtu.mv (lk rfl)) rfl ?_
  refine Ops.u (Dtu.mv (lk rfl)) rfl ?_
  refine Ops.u (Dtu.mv (lk rfl)) rfl ?_
  have e1 : min (n : Int) ((u + 1 - t : Nat) : Int) = ((min n (u + 1 - t) : Nat) : Int) := by omega
  rw [e1]
  have hN : min n (u + 1 - t) ≤ u + 1 - t := Nat.min_le_right _ _
  generalize hNe : min n (u + 1 - t) = N at *
  have hs1 := Sl.subM (gg := Row.hd) (E := E) (H := [own b [.int .i64 cols, .slice a rs.length c] 61, own b9 [.int .i32 p, .int .u8 f, .int .u32 g, .int .u32 q] 39, osl 62 1 (.slice a rs.length c) rs.length (rs.map Row.hd), many (rs.map Row.own)]) (Sl.osl 2 rfl) t (u + 1) (by omega) (by omega)
  have hs2 := Sl.subM hs1 N (u + 1 - t) (by omega) (by omega)
  refine Ops.u (Dtu.slL (N) Try.underlying59 Try.sizeOf62 hs1 (lk rfl) (lk rfl) (by omega) (by omega)) rfl ?_
  refine Ops.s (Stp.copyM 2 Try.underlying59 Try.sizeOf62 rfl (lk rfl) (LiesIn.sub' (Sl.osl 2 rfl) (by omega) (by omega)) (by omega) (lk rfl) hs2 (fun _ => rfl) rfl ?_) rfl
  refine Ops.nil ?_
  refine Then.next ?_
  refine Body.seq ?_
  refine Body.seq ?_
  refine Body.region ?_
  refine Ops.u (Dtu.mv (lk rfl)) rfl ?_
  refine Ops.u (Dtu.lenS Try.underlying59 (Sl.subM (Sl.osl 2 rfl) _ _ (by omega) (by omega)) (lk rfl)) rfl ?_
  refine Ops.u (Dtu.mv (lk rfl)) rfl ?_
  refine Ops.u (Dtu.sub (lk rfl) (lk rfl) (w64 (by omega) (by omega))) rfl ?_
  refine Ops.u (Dtu.asg (lk rfl)) rfl ?_
  refine Ops.nil ?_
  refine Then.next ?_
  refine Body.block ?_
  refine Body.conseq (H' := [own b [.int .i64 cols, .slice a rs.length c] 61, own b9 [.int .i32 p, .int .u8 f, .int .u32 g, .int .u32 q] 39, osl 62 1 (.slice a rs.length c) rs.length ((hdU t (u + 1 - t) N rs []).map Row.hd), many (rs.map Row.own), many (([] : List Row).map Row.own)]) (fun w s => ?_) ?_
  · rw [← hdU_start hN (by omega)]
    exact pk [1, 1, 1, 1, 0] rfl w (many_nil s)
  refine Body.loopF (γ := List Row) rfl (fun z => [(13, .int .i64 (((u + 1 - t : Nat) : Int) - N + z.length))]) (fun z => [own b [.int .i64 cols, .slice a rs.length c] 61, own b9 [.int .i32 p, .int .u8 f, .int .u32 g, .int .u32 q] 39, osl 62 1 (.slice a rs.length c) rs.length ((hdU t (u + 1 - t) N rs z).map Row.hd), many (rs.map Row.own), many (z.map Row.own)]) (fun z => z.length ≤ N ∧ ∀ x ∈ z, x.cs = List.replicate cols.toNat ⟨p, f, g, q⟩) (fun z => N - z.length) [] ⟨by simp, by simp⟩ ⟨int_eq (by simp), trivial⟩ rfl ?_
  rintro z w0 ⟨hz, hzc⟩
  clear hs1 hs2
  have hlen := hdU_len (t := t) (L := u + 1 - t) (N := N) (rs := rs) (z := z) hN (by omega) hz
  have hs3 := Sl.subM (gg := Row.hd) (E := E) (H := [own b [.int .i64 cols, .slice a rs.length c] 61, own b9 [.int .i32 p, .int .u8 f, .int .u32 g, .int .u32 q] 39, osl 62 1 (.slice a rs.length c) rs.length ((hdU t (u + 1 - t) N rs z).map Row.hd), many (rs.map Row.own), many (z.map Row.own)]) (Sl.osl 2 rfl) t (u + 1) (by omega) (by omega)
  refine Body.seq ?_
  refine Body.seq ?_
  refine Body.region ?_
  refine Ops.u (Dtu.mv (lk rfl)) rfl ?_
  refine Ops.u (Dtu.mv (lk rfl)) rfl ?_
  refine Ops.u (Dtu.lenS Try.underlying59 hs3 (lk rfl)) rfl ?_
  refine Ops.u (Dtu.lss (lk rfl) (lk rfl)) rfl ?_
  refine Ops.nil ?_
  refine Then.next ?_
  refine Body.condP (lk rfl) (fun c46 => ?_) (fun c46 => ?_)
  · refine Body.skip ?_
    refine Then.next ?_
    refine Body.seq ?_
    refine Body.block ?_
    refine Body.draw mixed ?_
    refine AB.u 0 rfl (by decide +kernel) (Dtu.mv (lk rfl)) rfl ?_
    refine AB.u 1 rfl (by decide +kernel) (Dtu.mv (lk rfl)) rfl ?_
    refine AB.u 2 rfl (by decide +kernel) (Dtu.mv (lk rfl)) rfl ?_
    refine AB.u 3 rfl (by decide +kernel) (Dtu.nilck (lk rfl)) rfl ?_
    refine AB.u 4 rfl (by decide +kernel) (Dtu.fld fa61_0 (lk rfl)) rfl ?_
    refine AB.d 5 rfl (by decide +kernel) rfl (Det.ld Try.isAgg3 (lk rfl) (Rd.ow 0 rfl rfl)) rfl ?_
    refine AB.d 6 rfl (by decide +kernel) rfl (Det.lda Try.isAgg39 Try.sizeOf39 (lk rfl) (Rds.ow (m := 4) 1 rfl rfl) rfl) rfl ?_
    refine AB.s 7 rfl (by decide +kernel) (by decide +kernel) (Stp.call rfl Try.call74 (lks rfl) (fun E' le hat => line_row E' _ _ _ _ _ (by omega) (by omega)) ?_) rfl
    rintro _ _ ⟨z56, hz56, rfl, rfl⟩
    refine AB.u 8 rfl (by decide +kernel) (Dtu.ix (i := (u + 1 - t - N + z.length)) Try.underlying59 Try.sizeOf62 (Sl.subM (Sl.osl 3 rfl) _ _ (by omega) (by omega)) (lk rfl) (lk rfl) (by omega) (by omega)) rfl ?_
    refine AB.pure (LiesIn.sub' (E := E) (v := .slice a rs.length c) (sz := 1) (m := rs.length) (vs := (hdU t (u + 1 - t) N rs z).map Row.hd) (lo := t) (hi := u + 1) (Sl.osl (t := 62) 3 rfl) (by omega) (by omega)) fun hlie => ?_
    obtain ⟨cc, hcc⟩ : ∃ cc, subSl (.slice a rs.length c) 1 t (u + 1) (capOf (.slice a rs.length c)) = .slice (some ⟨blkOf (.slice a rs.length c), offOf (.slice a rs.length c) + t * 1, none⟩) (u + 1 - t) cc := by
      rcases hlie with ⟨h0, _⟩ | h0
      · omega
      · exact h0
    have hp : Value.pointer (some ⟨blkOf (subSl (.slice a rs.length c) 1 t (u + 1) (capOf (.slice a rs.length c))), offOf (subSl (.slice a rs.length c) 1 t (u + 1) (capOf (.slice a rs.length c))) + (u + 1 - t - N + z.length) * 1, none⟩) = .pointer (some ⟨blkOf (.slice a rs.length c), offOf (.slice a rs.length c) + (t + (u + 1 - t - N) + z.length) * 1, none⟩) := by
      rw [hcc]
      simp only [blkOf, offOf, Nat.mul_one, Nat.add_assoc]
    have hset := hdU_set z56 hN (L := u + 1 - t) (t := t) (rs := rs) (z := z) (by omega) (by omega)
    refine AB.e 9 rfl (by decide +kernel) (by decide +kernel) (Stp.storeM 3 (e := z56) (gg := Row.hd) (k := t + (u + 1 - t - N) + z.length) Try.sizeOf62 rfl ((lk rfl).trans hp) (lk rfl) (fun _ => rfl) rfl (by omega) rfl ?_)
    rw [hset]
    refine AB.done (by decide +kernel) ?_
    refine Blk.norm ?_
    refine Then.next ?_
    refine Body.region ?_
    refine Ops.u (Dtu.mv (lk rfl)) rfl ?_
    refine Ops.u (Dtu.add (lk rfl) (lk rfl) (w64 (by omega) (by omega))) rfl ?_
    refine Ops.u (Dtu.asg (lk rfl)) rfl ?_
    refine Ops.nil ?_
    refine Round.goW (z ++ [z56]) rfl rfl rfl ⟨int_eq (by simp; omega), trivial⟩ (fun w s => ?_) ⟨by simp; omega, fun x hx => ?_⟩ (by simp; omega)
    · exact pk [1, 1, 1, 1, 0] rfl w (many_map_snoc (pk [0, 4, 0, 0, 0, 0] rfl w s))
    · rcases List.mem_append.1 hx with hx | hx
      · exact hzc x hx
      · rw [List.mem_singleton.1 hx]; exact hz56
  · refine Body.exit ?_
    refine Then.exit ?_
    refine Round.exit ?_
    refine Blk.here ?_
    refine Then.next ?_
    refine Body.seq ?_
    refine Body.region ?_
    refine Ops.u (Dtu.asg (lk rfl)) rfl ?_
    refine Ops.nil ?_
    refine Then.next ?_
    refine Body.ret ?_
    have hzl : z.length = N := by omega
    refine ⟨.inr rfl, _, fun w s => ?_, z, hzl, hzc, rfl, rfl⟩
    have s2 := many_move (t := t) hN (pk [3, 3, 0, 1] rfl w s)
    unfold gridA
    rw [rsU_len hN (by omega) hzl, ← hdU_end hN hzl]
    rw [← hdU_end hN hzl] at s2
    exact pk [1, 1, 0] rfl w s2
end Go.Proofs.Ytpmapedhigjalaa
end
section
/- A grid: what must come of fixed calls. -/
namespace Go.Proofs.Ytpmapedhigjalaa
set_option maxRecDepth 100000
set_option linter.unusedVariables false
set_option linter.unusedSimpArgs false
open Go.Sx

theorem Fit.new {rows cols : Int} {rs : List Row} (h : fitsG rows cols = true) (hr : rs.map Row.cs = List.replicate rows.toNat (List.replicate cols.toNat Cell.blank)) : Fit cols rs := by
  have hb : 1 ≤ rows ∧ rows ≤ 12 ∧ 1 ≤ cols ∧ cols ≤ 40 := by simpa [fitsG] using h
  have hl : rs.length = rows.toNat := by have := congrArg List.length hr; simpa using this
  refine ⟨by omega, by omega, fun r hm => ?_⟩
  have : r.cs ∈ rs.map Row.cs := List.mem_map.2 ⟨r, hm, rfl⟩
  rw [hr] at this
  rw [(List.mem_replicate.1 this).2]
  simp; omega
theorem Fit.rsU {cols : Int} {t L N : Nat} {rs z : List Row} {c : Cell} (h : Fit cols rs) (hN : N ≤ L) (hL : t + L ≤ rs.length) (hz : z.length = N) (hc : ∀ x ∈ z, x.cs = List.replicate cols.toNat c) : Fit cols (rsU t L N rs z) := by
  have hb := h.c
  refine ⟨by rw [rsU_len hN hL hz]; exact h.n, h.c, fun r hm => ?_⟩
  unfold Go.Proofs.Ytpmapedhigjalaa.rsU at hm
  simp only [List.mem_append] at hm
  rcases hm with hm | hm | hm | hm
  · exact h.r _ (List.mem_of_mem_take hm)
  · exact h.r _ (List.mem_of_mem_drop (List.mem_of_mem_take hm))
  · rw [hc r hm]; simp; omega
  · exact h.r _ (List.mem_of_mem_drop hm)
theorem alive17_ok (E : Env) : Does Try.prog 14 #[] E [] fun r H' => r = .bool true ∧ H' = [] := by
  have hf : fitsG 2 3 = true := rfl
  have hf2 : fitsG 0 3 = false := rfl
  refine Does.go (args := []) _ _ Try.func14 rfl Try.ntmps14 rfl rfl ?_
  refine Body.seq ?_
  refine Body.region ?_
  refine Ops.u (Dtu.asg (lk rfl)) rfl ?_
  refine Ops.nil ?_
  refine Then.next ?_
  refine Body.seq ?_
  refine Body.region ?_
  refine Ops.s (Stp.call rfl Try.call12 (lks rfl) (fun E' le hat => gnew_ok E' _ _ (by assumption)) ?_) rfl
  rintro _ _ ⟨nb12, na12, nc12, nr12, hnr12, rfl, rfl⟩
  refine Ops.u (Dtu.mv (lk rfl)) rfl ?_
  refine Ops.u (Dtu.ext (lk rfl) rfl) rfl ?_
  refine Ops.u (Dtu.ext (lk rfl) rfl) rfl ?_
  refine Ops.u (Dtu.asg (lk rfl)) rfl ?_
  refine Ops.u (Dtu.asg (lk rfl)) rfl ?_
  refine Ops.nil ?_
  refine Then.next ?_
  refine Body.seq ?_
  refine Body.seq ?_
  refine Body.region ?_
  refine Ops.u (Dtu.mv (lk rfl)) rfl ?_
  refine Ops.u (Dtu.neq (lk rfl) (lk rfl)) rfl ?_
  refine Ops.u (Dtu.mv (lk rfl)) rfl ?_
  refine Ops.decP 17 rfl (fun hy => absurd hy (by first | omega | assumption | decide)) (fun _ => ?_)
  refine Ops.gu rfl rfl rfl (Dtu.mv (lk rfl)) rfl ?_
  refine Ops.gu rfl rfl rfl (Dtu.eqNil Try.underlying23 (lk rfl) (lk rfl)) rfl ?_
  refine Ops.u (Dtu.pickF (lk rfl) (lk rfl)) rfl ?_
  refine Ops.nil ?_
  refine Then.next ?_
  refine Body.condF (lk rfl) ?_
  refine Body.skip ?_
  refine Then.next ?_
  refine Body.seq ?_
  refine Body.region ?_
  refine Ops.u (Dtu.mv (lk rfl)) rfl ?_
  refine Ops.u (Dtu.build ty39 pl39 (lkp rfl) rfl rfl) rfl ?_
  have f0 := Fit.new hf hnr12
  have hl0 : nr12.length = 2 := by have := congrArg List.length hnr12; simpa using this
  refine Ops.s (Stp.callOwn [0, 0, 0] rfl rfl Try.call29 (lks rfl) (fun E' le hat => gput_ok E' _ 3 _ _ _ _ f0 1 2 65 0 0 0 (by unfold hasE; rw [hl0]; rfl)) ?_) rfl
  rintro _ _ ⟨rfl, rfl⟩
  refine Ops.u (Dtu.asg (lk rfl)) rfl ?_
  refine Ops.nil ?_
  refine Then.next ?_
  refine Body.seq ?_
  refine Body.region ?_
  refine Ops.u (Dtu.mv (lk rfl)) rfl ?_
  refine Ops.s (Stp.call rfl Try.call24 (lks rfl) (fun E' le hat => blank_ok E') ?_) rfl
  rintro _ _ ⟨rfl, rfl⟩
  have f1 : Fit 3 (setC nr12 1 (nr12[1]!.cs.set 2 ⟨65, 0, 0, 0⟩)) := f0.setC (by rw [List.length_set]; exact f0.at (by omega))
  have hl1 : (setC nr12 1 (nr12[1]!.cs.set 2 ⟨65, 0, 0, 0⟩)).length = 2 := by rw [setC_len]; exact hl0
  have h12 : nr12[1]!.cs = [Cell.blank, Cell.blank, Cell.blank] := by
    match nr12, hnr12, hl0 with
    | [r0, r1], h, _ =>
      simp only [List.map_cons, List.map_nil] at h
      injection h with _ h
      injection h with h _
  have hx : (setC nr12 1 (nr12[1]!.cs.set 2 ⟨65, 0, 0, 0⟩))[1]!.cs = [Cell.blank, Cell.blank, ⟨65, 0, 0, 0⟩] := by
    rw [h12]
    match nr12, hl0 with
    | [r0, r1], _ => rfl
  generalize setC nr12 1 (nr12[1]!.cs.set 2 ⟨65, 0, 0, 0⟩) = rs1 at *
  refine Ops.s (Stp.callOwn [0, 0, 0] rfl rfl Try.call23 (lks rfl) (fun E' le hat => gup_ok E' _ 3 _ _ _ _ f1 0 1 1 32 0 0 0 (by unfold rowsE; rw [hl1]; rfl)) ?_) rfl
  rintro _ _ ⟨z, hz, hzc, rfl, rfl⟩
  refine Ops.u (Dtu.asg (lk rfl)) rfl ?_
  refine Ops.nil ?_
  refine Then.next ?_
  refine Body.seq ?_
  refine Body.region ?_
  refine Ops.u (Dtu.mv (lk rfl)) rfl ?_
  have f2 : Fit 3 (rsU 0 2 1 rs1 z) := f1.rsU (by omega) (by omega) hz hzc
  have hl2 : (rsU 0 2 1 rs1 z).length = 2 := by rw [rsU_len (t := 0) (L := 2) (N := 1) (by omega) (by omega) hz]; exact hl1
  have hy : (rsU 0 2 1 rs1 z)[0]!.cs[2]! = ⟨65, 0, 0, 0⟩ ∧ (rsU 0 2 1 rs1 z)[1]!.cs[2]! = ⟨32, 0, 0, 0⟩ := by
    match rs1, hl1, z, hz with
    | [r0, r1], _, [z0], _ =>
      have e1 : r1.cs = [Cell.blank, Cell.blank, ⟨65, 0, 0, 0⟩] := hx
      have e2 := hzc z0 (by simp)
      refine ⟨?_, ?_⟩
      · show r1.cs[2]! = _
        rw [e1]; rfl
      · show z0.cs[2]! = _
        rw [e2]; rfl
  have hp1 : (rsU 0 2 1 rs1 z)[0]!.cs[2]!.pt = 65 := by rw [hy.1]
  have hp2 : (rsU 0 2 1 rs1 z)[1]!.cs[2]!.pt = 32 := by rw [hy.2]
  refine Ops.s (Stp.callOwn [0, 0, 0] rfl rfl Try.call16 (lks rfl) (fun E' le hat => gat_ok E' _ 3 _ _ _ _ f2 0 2 (by unfold hasE; rw [hl2]; rfl)) ?_) rfl
  rintro _ _ ⟨rfl, rfl⟩
  refine Ops.u (Dtu.mv (lk rfl)) rfl ?_
  refine Ops.u (Dtu.ext (lk rfl) rfl) rfl ?_
  refine Ops.u (Dtu.ext (lk rfl) rfl) rfl ?_
  refine Ops.s (Stp.alloc ty39 (fun b5 => ?_)) rfl
  refine Ops.e (Stp.store 0 Try.sizeOf39 (lk rfl) (lk rfl) rfl rfl rfl rfl rfl rfl rfl ?_)
  refine Ops.u (Dtu.asg (lk rfl)) rfl ?_
  refine Ops.nil ?_
  refine Then.next ?_
  refine Body.seq ?_
  refine Body.region ?_
  refine Ops.u (Dtu.mv (lk rfl)) rfl ?_
  refine Ops.s (Stp.callOwn [1, 1, 1] rfl rfl Try.call16 (lks rfl) (fun E' le hat => gat_ok E' _ 3 _ _ _ _ f2 1 2 (by unfold hasE; rw [hl2]; rfl)) ?_) rfl
  rintro _ _ ⟨rfl, rfl⟩
  refine Ops.u (Dtu.mv (lk rfl)) rfl ?_
  refine Ops.u (Dtu.ext (lk rfl) rfl) rfl ?_
  refine Ops.u (Dtu.ext (lk rfl) rfl) rfl ?_
  refine Ops.s (Stp.alloc ty39 (fun b7 => ?_)) rfl
  refine Ops.e (Stp.store 0 Try.sizeOf39 (lk rfl) (lk rfl) rfl rfl rfl rfl rfl rfl rfl ?_)
  refine Ops.u (Dtu.asg (lk rfl)) rfl ?_
  refine Ops.nil ?_
  refine Then.next ?_
  refine Body.seq ?_
  refine Body.region ?_
  refine Ops.s (Stp.call rfl Try.call12 (lks rfl) (fun E' le hat => gnew_no E' _ _ (by assumption)) ?_) rfl
  rintro _ _ ⟨rfl, rfl⟩
  refine Ops.u (Dtu.mv (lk rfl)) rfl ?_
  refine Ops.u (Dtu.ext (lk rfl) rfl) rfl ?_
  refine Ops.u (Dtu.ext (lk rfl) rfl) rfl ?_
  refine Ops.u (Dtu.asg (lk rfl)) rfl ?_
  refine Ops.u (Dtu.asg (lk rfl)) rfl ?_
  refine Ops.nil ?_
  refine Then.next ?_
  refine Body.seq ?_
  refine Body.region ?_
  refine Ops.u (Dtu.mv (lk rfl)) rfl ?_
  refine Ops.u (Dtu.eql (lk rfl) (lk rfl)) rfl ?_
  refine Ops.u (Dtu.mv (lk rfl)) rfl ?_
  refine Ops.decP 43 rfl (fun _ => ?_) (fun hn => absurd (by first | omega | assumption | decide) hn)
  refine Ops.gu rfl rfl rfl (Dtu.mv (lk rfl)) rfl ?_
  refine Ops.gu rfl rfl rfl (Dtu.eql (lk rfl) (lk rfl)) rfl ?_
  refine Ops.u (Dtu.pickT (lk rfl) (lk rfl)) rfl ?_
  refine Ops.u (Dtu.mv (lk rfl)) rfl ?_
  refine Ops.decP 47 rfl (fun _ => ?_) (fun hn => absurd (by first | omega | assumption | decide) hn)
  refine Ops.gu rfl rfl rfl (Dtu.fld fa39_0 (lk rfl)) rfl ?_
  refine Ops.gd rfl rfl rfl (Det.ld Try.isAgg21 (lk rfl) (Rd.ow 4 rfl rfl)) rfl ?_
  refine Ops.gu rfl rfl rfl (Dtu.eql (lk rfl) (lk rfl)) rfl ?_
  refine Ops.u (Dtu.pickT (lk rfl) (lk rfl)) rfl ?_
  refine Ops.u (Dtu.mv (lk rfl)) rfl ?_
  refine Ops.decP 52 rfl (fun _ => ?_) (fun hn => absurd (by first | omega | assumption | decide) hn)
  refine Ops.gu rfl rfl rfl (Dtu.mv (lk rfl)) rfl ?_
  refine Ops.gu rfl rfl rfl (Dtu.eql (lk rfl) (lk rfl)) rfl ?_
  refine Ops.u (Dtu.pickT (lk rfl) (lk rfl)) rfl ?_
  refine Ops.u (Dtu.mv (lk rfl)) rfl ?_
  refine Ops.decP 56 rfl (fun _ => ?_) (fun hn => absurd (by first | omega | assumption | decide) hn)
  refine Ops.gu rfl rfl rfl (Dtu.fld fa39_0 (lk rfl)) rfl ?_
  refine Ops.gd rfl rfl rfl (Det.ld Try.isAgg21 (lk rfl) (Rd.ow 0 rfl rfl)) rfl ?_
  refine Ops.gu rfl rfl rfl (Dtu.eql (lk rfl) (lk rfl)) rfl ?_
  refine Ops.u (Dtu.pickT (lk rfl) (lk rfl)) rfl ?_
  refine Ops.u (Dtu.mv (lk rfl)) rfl ?_
  refine Ops.decP 61 rfl (fun _ => ?_) (fun hn => absurd (by first | omega | assumption | decide) hn)
  refine Ops.gu rfl rfl rfl (Dtu.mv (lk rfl)) rfl ?_
  refine Ops.gu rfl rfl rfl (Dtu.eql (lk rfl) (lk rfl)) rfl ?_
  refine Ops.u (Dtu.pickT (lk rfl) (lk rfl)) rfl ?_
  refine Ops.u (Dtu.mv (lk rfl)) rfl ?_
  refine Ops.decP 65 rfl (fun _ => ?_) (fun hn => absurd (by first | omega | assumption | decide) hn)
  refine Ops.gu rfl rfl rfl (Dtu.mv (lk rfl)) rfl ?_
  refine Ops.gu rfl rfl rfl (Dtu.eql (lk rfl) (lk rfl)) rfl ?_
  refine Ops.u (Dtu.pickT (lk rfl) (lk rfl)) rfl ?_
  refine Ops.u (Dtu.asg (lk rfl)) rfl ?_
  refine Ops.nil ?_
  refine Then.next ?_
  refine Body.ret ?_
  exact ⟨.inr rfl, _, pk [] rfl, rfl, rfl⟩
end Go.Proofs.Ytpmapedhigjalaa
end
section
/- A grid: GridNobody. -/
namespace Go.Proofs.Ytpmapedhigjalaa
set_option maxRecDepth 100000
set_option linter.unusedVariables false
set_option linter.unusedSimpArgs false
open Go.Sx

theorem gline_z (E : Env) (b : Nat) (row : Int) : Does Try.prog 28 #[.pointer (some ⟨b, 0, none⟩), .int .i64 row] E [own b [.int .i64 0, .slice none 0 0] 61] fun r H' => r = .tuple #[.slice none 0 0, .int .i64 6] ∧ H' = [own b [.int .i64 0, .slice none 0 0] 61] := gline_zero E b 0 none 0 0 row (show (6 : Int) ≠ 0 by decide)
theorem gmade_r (E : Env) (b : Nat) (hAt : At (own b [.int .i64 0, .slice none 0 0] 61) E) : Does Try.prog 85 #[.pointer (some ⟨b, 0, none⟩)] E [] fun r H' => r = .bool false ∧ H' = [] := by
  refine Does.go (args := [.pointer (some ⟨b, 0, none⟩)]) _ _ Try.func85 rfl Try.ntmps85 rfl rfl ?_
  refine Body.seq ?_
  refine Body.region ?_
  refine Ops.u (Dtu.asg (lk rfl)) rfl ?_
  refine Ops.nil ?_
  refine Then.next ?_
  refine Body.seq ?_
  refine Body.region ?_
  refine Ops.u (Dtu.mv (lk rfl)) rfl ?_
  refine Ops.u (Dtu.neNil Try.underlying23 (lk rfl) (lk rfl)) rfl ?_
  refine Ops.u (Dtu.mv (lk rfl)) rfl ?_
  refine Ops.gu rfl rfl rfl (Dtu.mv (lk rfl)) rfl ?_
  refine Ops.gu rfl rfl rfl (Dtu.nilck (lk rfl)) rfl ?_
  refine Ops.gu rfl rfl rfl (Dtu.fld fa61_1 (lk rfl)) rfl ?_
  refine Ops.gd rfl rfl rfl (Det.ld Try.isAgg59 (lk rfl) (Rd.env (own_at hAt rfl))) rfl ?_
  refine Ops.gu rfl rfl rfl (Dtu.len Try.underlying59 (lk rfl)) rfl ?_
  refine Ops.gu rfl rfl rfl (Dtu.gtr (lk rfl) (lk rfl)) rfl ?_
  refine Ops.u (Dtu.pickT (lk rfl) (lk rfl)) rfl ?_
  refine Ops.u (Dtu.asg (lk rfl)) rfl ?_
  refine Ops.nil ?_
  refine Then.next ?_
  refine Body.ret ?_
  exact ⟨.inr rfl, _, pk [] rfl, rfl, rfl⟩
theorem ghas_r (E : Env) (b : Nat) (row col : Int) (hAt : At (own b [.int .i64 0, .slice none 0 0] 61) E) : Does Try.prog 80 #[.pointer (some ⟨b, 0, none⟩), .int .i64 row, .int .i64 col] E [] fun r H' => r = .int .i64 6 ∧ H' = [] := by
  refine Does.go (args := [.pointer (some ⟨b, 0, none⟩), .int .i64 row, .int .i64 col]) _ _ Try.func80 rfl Try.ntmps80 rfl rfl ?_
  refine Body.seq ?_
  refine Body.region ?_
  refine Ops.u (Dtu.asg (lk rfl)) rfl ?_
  refine Ops.nil ?_
  refine Then.next ?_
  refine Body.seq ?_
  refine Body.block ?_
  refine Body.seq ?_
  refine Body.region ?_
  refine Ops.u (Dtu.mv (lk rfl)) rfl ?_
  refine Ops.s (Stp.call rfl Try.call85 (lks rfl) (fun E' le hat => gmade_r E' b (At.mono hAt le)) ?_) rfl
  rintro _ _ ⟨rfl, rfl⟩
  refine Ops.u (Dtu.not (lk rfl)) rfl ?_
  refine Ops.u (Dtu.asg (lk rfl)) rfl ?_
  refine Ops.nil ?_
  refine Then.next ?_
  refine Body.condT (lk rfl) ?_
  refine Body.seq ?_
  refine Body.region ?_
  refine Ops.u (Dtu.asg (lk rfl)) rfl ?_
  refine Ops.nil ?_
  refine Then.next ?_
  refine Body.ret ?_
  refine Blk.ret ?_
  refine Then.ret ?_
  exact ⟨.inr rfl, _, pk [] rfl, rfl, rfl⟩
theorem grows_r (E : Env) (b : Nat) (row col n : Int) (hAt : At (own b [.int .i64 0, .slice none 0 0] 61) E) : Does Try.prog 82 #[.pointer (some ⟨b, 0, none⟩), .int .i64 row, .int .i64 col, .int .i64 n] E [] fun r H' => r = .int .i64 6 ∧ H' = [] := by
  refine Does.go (args := [.pointer (some ⟨b, 0, none⟩), .int .i64 row, .int .i64 col, .int .i64 n]) _ _ Try.func82 rfl Try.ntmps82 rfl rfl ?_
  refine Body.seq ?_
  refine Body.region ?_
  refine Ops.u (Dtu.asg (lk rfl)) rfl ?_
  refine Ops.nil ?_
  refine Then.next ?_
  refine Body.seq ?_
  refine Body.block ?_
  refine Body.seq ?_
  refine Body.region ?_
  refine Ops.u (Dtu.mv (lk rfl)) rfl ?_
  refine Ops.s (Stp.call rfl Try.call85 (lks rfl) (fun E' le hat => gmade_r E' b (At.mono hAt le)) ?_) rfl
  rintro _ _ ⟨rfl, rfl⟩
  refine Ops.u (Dtu.not (lk rfl)) rfl ?_
  refine Ops.u (Dtu.asg (lk rfl)) rfl ?_
  refine Ops.nil ?_
  refine Then.next ?_
  refine Body.condT (lk rfl) ?_
  refine Body.seq ?_
  refine Body.region ?_
  refine Ops.u (Dtu.asg (lk rfl)) rfl ?_
  refine Ops.nil ?_
  refine Then.next ?_
  refine Body.ret ?_
  refine Blk.ret ?_
  refine Then.ret ?_
  exact ⟨.inr rfl, _, pk [] rfl, rfl, rfl⟩
theorem gfill_r (E : Env) (b : Nat) (row x y : Int) (p f g q : Int) (hAt : At (own b [.int .i64 0, .slice none 0 0] 61) E) : Does Try.prog 30 #[.pointer (some ⟨b, 0, none⟩), .int .i64 row, .int .i64 x, .int .i64 y, .agg #[.int .i32 p, .int .u8 f, .int .u32 g, .int .u32 q]] E [] fun r H' => r = .int .i64 6 ∧ H' = [] := by
  refine Does.go (args := [.pointer (some ⟨b, 0, none⟩), .int .i64 row, .int .i64 x, .int .i64 y, .agg #[.int .i32 p, .int .u8 f, .int .u32 g, .int .u32 q]]) _ _ Try.func30 rfl Try.ntmps30 rfl rfl ?_
  refine Body.seq ?_
  refine Body.region ?_
  refine Ops.s (Stp.box (lk rfl) rfl (fun b9 => ?_)) rfl
  refine Ops.u (Dtu.asg (lk rfl)) rfl ?_
  refine Ops.nil ?_
  refine Then.next ?_
  refine Body.seq ?_
  refine Body.seq ?_
  refine Body.region ?_
  refine Ops.u (Dtu.mv (lk rfl)) rfl ?_
  refine Ops.u (Dtu.mv (lk rfl)) rfl ?_
  refine Ops.s (Stp.call rfl Try.call80 (lks rfl) (fun E' le hat => ghas_r E' b _ _ (At.mono hAt le)) ?_) rfl
  rintro _ _ ⟨rfl, rfl⟩
  refine Ops.u (Dtu.asg (lk rfl)) rfl ?_
  refine Ops.nil ?_
  refine Then.next ?_
  refine Body.seq ?_
  refine Body.region ?_
  refine Ops.u (Dtu.mv (lk rfl)) rfl ?_
  refine Ops.u (Dtu.neq (lk rfl) (lk rfl)) rfl ?_
  refine Ops.nil ?_
  refine Then.next ?_
  refine Body.condP (lk rfl) (fun _ => ?_) (fun hn => absurd (by first | omega | assumption | decide) hn)
  refine Body.seq ?_
  refine Body.region ?_
  refine Ops.u (Dtu.mv (lk rfl)) rfl ?_
  refine Ops.u (Dtu.asg (lk rfl)) rfl ?_
  refine Ops.nil ?_
  refine Then.next ?_
  refine Body.ret ?_
  refine Then.ret ?_
  exact ⟨.inr rfl, _, pk [] rfl, rfl, rfl⟩
theorem gdown_r (E : Env) (b : Nat) (row x y : Int) (p f g q : Int) (hAt : At (own b [.int .i64 0, .slice none 0 0] 61) E) : Does Try.prog 25 #[.pointer (some ⟨b, 0, none⟩), .int .i64 row, .int .i64 x, .int .i64 y, .agg #[.int .i32 p, .int .u8 f, .int .u32 g, .int .u32 q]] E [] fun r H' => r = .int .i64 6 ∧ H' = [] := by
  refine Does.go (args := [.pointer (some ⟨b, 0, none⟩), .int .i64 row, .int .i64 x, .int .i64 y, .agg #[.int .i32 p, .int .u8 f, .int .u32 g, .int .u32 q]]) _ _ Try.func25 rfl Try.ntmps25 rfl rfl ?_
  refine Body.seq ?_
  refine Body.region ?_
  refine Ops.s (Stp.box (lk rfl) rfl (fun b9 => ?_)) rfl
  refine Ops.u (Dtu.asg (lk rfl)) rfl ?_
  refine Ops.nil ?_
  refine Then.next ?_
  refine Body.seq ?_
  refine Body.seq ?_
  refine Body.region ?_
  refine Ops.u (Dtu.mv (lk rfl)) rfl ?_
  refine Ops.u (Dtu.mv (lk rfl)) rfl ?_
  refine Ops.u (Dtu.mv (lk rfl)) rfl ?_
  refine Ops.u (Dtu.mv (lk rfl)) rfl ?_
  refine Ops.s (Stp.call rfl Try.call82 (lks rfl) (fun E' le hat => grows_r E' b _ _ _ (At.mono hAt le)) ?_) rfl
  rintro _ _ ⟨rfl, rfl⟩
  refine Ops.u (Dtu.asg (lk rfl)) rfl ?_
  refine Ops.nil ?_
  refine Then.next ?_
  refine Body.seq ?_
  refine Body.region ?_
  refine Ops.u (Dtu.mv (lk rfl)) rfl ?_
  refine Ops.u (Dtu.neq (lk rfl) (lk rfl)) rfl ?_
  refine Ops.nil ?_
  refine Then.next ?_
  refine Body.condP (lk rfl) (fun _ => ?_) (fun hn => absurd (by first | omega | assumption | decide) hn)
  refine Body.seq ?_
  refine Body.region ?_
  refine Ops.u (Dtu.mv (lk rfl)) rfl ?_
  refine Ops.u (Dtu.asg (lk rfl)) rfl ?_
  refine Ops.nil ?_
  refine Then.next ?_
  refine Body.ret ?_
  refine Then.ret ?_
  exact ⟨.inr rfl, _, pk [] rfl, rfl, rfl⟩
theorem gresize_r (E : Env) (b : Nat) (row x : Int) (p f g q : Int) (hAt : At (own b [.int .i64 0, .slice none 0 0] 61) E) : Does Try.prog 31 #[.pointer (some ⟨b, 0, none⟩), .int .i64 row, .int .i64 x, .agg #[.int .i32 p, .int .u8 f, .int .u32 g, .int .u32 q]] E [] fun r H' => r = .int .i64 6 ∧ H' = [] := by
  refine Does.go (args := [.pointer (some ⟨b, 0, none⟩), .int .i64 row, .int .i64 x, .agg #[.int .i32 p, .int .u8 f, .int .u32 g, .int .u32 q]]) _ _ Try.func31 rfl Try.ntmps31 rfl rfl ?_
  refine Body.seq ?_
  refine Body.region ?_
  refine Ops.s (Stp.box (lk rfl) rfl (fun b7 => ?_)) rfl
  refine Ops.u (Dtu.asg (lk rfl)) rfl ?_
  refine Ops.nil ?_
  refine Then.next ?_
  refine Body.seq ?_
  refine Body.block ?_
  refine Body.seq ?_
  refine Body.region ?_
  refine Ops.u (Dtu.mv (lk rfl)) rfl ?_
  refine Ops.s (Stp.call rfl Try.call85 (lks rfl) (fun E' le hat => gmade_r E' b (At.mono hAt le)) ?_) rfl
  rintro _ _ ⟨rfl, rfl⟩
  refine Ops.u (Dtu.not (lk rfl)) rfl ?_
  refine Ops.u (Dtu.asg (lk rfl)) rfl ?_
  refine Ops.nil ?_
  refine Then.next ?_
  refine Body.condT (lk rfl) ?_
  refine Body.seq ?_
  refine Body.region ?_
  refine Ops.u (Dtu.asg (lk rfl)) rfl ?_
  refine Ops.nil ?_
  refine Then.next ?_
  refine Body.ret ?_
  refine Blk.ret ?_
  refine Then.ret ?_
  exact ⟨.inr rfl, _, pk [] rfl, rfl, rfl⟩
theorem gnew34 (E : Env) : Does Try.prog 12 #[.int .i64 3, .int .i64 4] E [] fun r H' => ∃ b a c rs, rs.length = 3 ∧ Fit 4 rs ∧ r = .tuple #[.pointer (some ⟨b, 0, none⟩), .int .i64 0] ∧ H' = gridA b 4 a 3 c rs := by
  refine (gnew_ok E 3 4 rfl).mono ?_
  rintro r H' ⟨b, a, c, rs, hr, rfl, rfl⟩
  have hl : rs.length = 3 := by have := congrArg List.length hr; simpa using this
  exact ⟨b, a, c, rs, hl, Fit.new rfl hr, rfl, by unfold gridA; rw [hl]⟩
theorem gline34 (E : Env) (b : Nat) (a : Option Addr) (c : Nat) (rs : List Row) (hl : rs.length = 3) (hr : Fit 4 rs) (row : Int) (h0 : 0 ≤ row) (h3 : row < 3) : Does Try.prog 28 #[.pointer (some ⟨b, 0, none⟩), .int .i64 row] E (gridA b 4 a 3 c rs) fun r H' => ∃ z1 z3 cs, r = .tuple #[.slice z1 4 z3, .int .i64 0] ∧ H' = gridA b 4 a 3 c rs ++ [osl 39 4 (.slice z1 4 z3) 4 cs] := by
  obtain ⟨k, rfl⟩ := Int.eq_ofNat_of_zero_le h0
  refine (gline_ok E b 4 a 3 c rs hr k (by unfold hasE; rw [hl]; (repeat' split) <;> omega)).mono ?_
  rintro r H' ⟨z1, z3, rfl, rfl⟩
  have h4 : rs[k]!.cs.length = 4 := by have := hr.at (j := k) (by omega); omega
  rw [h4]
  exact ⟨z1, z3, _, rfl, rfl⟩
theorem gline34n (E : Env) (b : Nat) (a : Option Addr) (c : Nat) (row : Int) (h : row < 0 ∨ 3 ≤ row) : Does Try.prog 28 #[.pointer (some ⟨b, 0, none⟩), .int .i64 row] E [own b [.int .i64 4, .slice a 3 c] 61] fun r H' => r = .tuple #[.slice none 0 0, .int .i64 1] ∧ H' = [own b [.int .i64 4, .slice a 3 c] 61] := by
  have e : hasE 3 4 row 0 = 1 := by unfold hasE; (repeat' split) <;> omega
  have := gline_zero E b 4 a 3 c row (by rw [e]; decide)
  rw [e] at this
  exact this
set_option maxHeartbeats 6400000 in
theorem nobody_ok (E : Env) (kd oa ob on_ p f g q : Int) : Does Try.prog 5 #[.agg #[.int .i64 kd, .int .i64 oa, .int .i64 ob, .int .i64 on_, .int .i32 p, .int .u8 f, .int .u32 g, .int .u32 q]] E [] fun r H' => r = .bool true ∧ H' = [] := by
  have hf : fitsG 3 4 = true := rfl
  refine Does.go (args := [.agg #[.int .i64 kd, .int .i64 oa, .int .i64 ob, .int .i64 on_, .int .i32 p, .int .u8 f, .int .u32 g, .int .u32 q]]) _ _ Try.func5 rfl Try.ntmps5 rfl rfl ?_
  refine Body.seq ?_
  refine Body.region ?_
  refine Ops.s (Stp.box (lk rfl) rfl (fun b1 => ?_)) rfl
  refine Ops.u (Dtu.asg (lk rfl)) rfl ?_
  refine Ops.nil ?_
  refine Then.next ?_
  refine Body.seq ?_
  refine Body.region ?_
  refine Ops.u (Dtu.asg (lk rfl)) rfl ?_
  refine Ops.nil ?_
  refine Then.next ?_
  refine Body.seq ?_
  refine Body.region ?_
  refine Ops.s (Stp.alloc ty61 (fun b4 => ?_)) rfl
  refine Ops.nil ?_
  refine Then.next ?_
  refine Body.seq ?_
  refine Body.region ?_
  refine Ops.u (Dtu.mv (lk rfl)) rfl ?_
  refine Ops.u (Dtu.fld fa41_1 (lk rfl)) rfl ?_
  refine Ops.d (Det.ld Try.isAgg3 (lk rfl) (Rd.ow 1 rfl rfl)) rfl ?_
  refine Ops.u (Dtu.fld fa41_2 (lk rfl)) rfl ?_
  refine Ops.d (Det.ld Try.isAgg3 (lk rfl) (Rd.ow 1 rfl rfl)) rfl ?_
  refine Ops.s (Stp.call rfl Try.call16 (lks rfl) (fun E' le hat => gat_nil E' _ _) ?_) rfl
  rintro _ _ ⟨rfl, rfl⟩
  refine Ops.u (Dtu.mv (lk rfl)) rfl ?_
  refine Ops.u (Dtu.ext (lk rfl) rfl) rfl ?_
  refine Ops.u (Dtu.ext (lk rfl) rfl) rfl ?_
  refine Ops.s (Stp.alloc ty39 (fun b5 => ?_)) rfl
  refine Ops.e (Stp.store 0 Try.sizeOf39 (lk rfl) (lk rfl) rfl rfl rfl rfl rfl rfl rfl ?_)
  refine Ops.u (Dtu.asg (lk rfl)) rfl ?_
  refine Ops.nil ?_
  refine Then.next ?_
  refine Body.seq ?_
  refine Body.region ?_
  refine Ops.u (Dtu.fld fa41_1 (lk rfl)) rfl ?_
  refine Ops.d (Det.ld Try.isAgg3 (lk rfl) (Rd.ow 2 rfl rfl)) rfl ?_
  refine Ops.s (Stp.callOwn [1] rfl rfl Try.call28 (lks rfl) (fun E' le hat => gline_z E' _ _) ?_) rfl
  rintro _ _ ⟨rfl, rfl⟩
  refine Ops.u (Dtu.mv (lk rfl)) rfl ?_
  refine Ops.u (Dtu.ext (lk rfl) rfl) rfl ?_
  refine Ops.u (Dtu.ext (lk rfl) rfl) rfl ?_
  refine Ops.u (Dtu.asg (lk rfl)) rfl ?_
  refine Ops.u (Dtu.asg (lk rfl)) rfl ?_
  refine Ops.nil ?_
  refine Then.next ?_
  refine Body.seqJ (γ := Nat) rfl (fun l => [(9, .pointer (some ⟨l, 0, none⟩))]) (fun l => [own l [.int .i64 6, .int .i64 6, .int .i64 6, .int .i64 6, .int .i64 6, .int .i64 6] 66, own b4 [.int .i64 0, .slice none 0 0] 61, own b1 [.int .i64 kd, .int .i64 oa, .int .i64 ob, .int .i64 on_, .int .i32 p, .int .u8 f, .int .u32 g, .int .u32 q] 41]) (fun _ => True) ?_ ?_
  · refine Body.draw rfl ?_
    refine AB.u 0 rfl (by decide +kernel) (Dtu.mv (lk rfl)) rfl ?_
    refine AB.u 1 rfl (by decide +kernel) (Dtu.fld fa41_1 (lk rfl)) rfl ?_
    refine AB.d 2 rfl (by decide +kernel) rfl (Det.ld Try.isAgg3 (lk rfl) (Rd.ow 2 rfl rfl)) rfl ?_
    refine AB.u 3 rfl (by decide +kernel) (Dtu.fld fa41_2 (lk rfl)) rfl ?_
    refine AB.d 4 rfl (by decide +kernel) rfl (Det.ld Try.isAgg3 (lk rfl) (Rd.ow 2 rfl rfl)) rfl ?_
    refine AB.u 5 rfl (by decide +kernel) (Dtu.fld fa41_4 (lk rfl)) rfl ?_
    refine AB.d 6 rfl (by decide +kernel) rfl (Det.lda Try.isAgg39 Try.sizeOf39 (lk rfl) (Rds.ow (m := 4) 2 rfl rfl) rfl) rfl ?_
    refine AB.u 8 rfl (by decide +kernel) (Dtu.fld fa41_1 (lk rfl)) rfl ?_
    refine AB.d 9 rfl (by decide +kernel) rfl (Det.ld Try.isAgg3 (lk rfl) (Rd.ow 2 rfl rfl)) rfl ?_
    refine AB.u 10 rfl (by decide +kernel) (Dtu.fld fa41_2 (lk rfl)) rfl ?_
    refine AB.d 11 rfl (by decide +kernel) rfl (Det.ld Try.isAgg3 (lk rfl) (Rd.ow 2 rfl rfl)) rfl ?_
    refine AB.u 12 rfl (by decide +kernel) (Dtu.fld fa41_3 (lk rfl)) rfl ?_
    refine AB.d 13 rfl (by decide +kernel) rfl (Det.ld Try.isAgg3 (lk rfl) (Rd.ow 2 rfl rfl)) rfl ?_
    refine AB.u 14 rfl (by decide +kernel) (Dtu.fld fa41_4 (lk rfl)) rfl ?_
    refine AB.d 15 rfl (by decide +kernel) rfl (Det.lda Try.isAgg39 Try.sizeOf39 (lk rfl) (Rds.ow (m := 4) 2 rfl rfl) rfl) rfl ?_
    refine AB.u 17 rfl (by decide +kernel) (Dtu.mv (lk rfl)) rfl ?_
    refine AB.u 18 rfl (by decide +kernel) (Dtu.fld fa41_1 (lk rfl)) rfl ?_
    refine AB.d 19 rfl (by decide +kernel) rfl (Det.ld Try.isAgg3 (lk rfl) (Rd.ow 2 rfl rfl)) rfl ?_
    refine AB.u 20 rfl (by decide +kernel) (Dtu.fld fa41_2 (lk rfl)) rfl ?_
    refine AB.d 21 rfl (by decide +kernel) rfl (Det.ld Try.isAgg3 (lk rfl) (Rd.ow 2 rfl rfl)) rfl ?_
    refine AB.u 22 rfl (by decide +kernel) (Dtu.fld fa41_3 (lk rfl)) rfl ?_
    refine AB.d 23 rfl (by decide +kernel) rfl (Det.ld Try.isAgg3 (lk rfl) (Rd.ow 2 rfl rfl)) rfl ?_
    refine AB.u 24 rfl (by decide +kernel) (Dtu.fld fa41_4 (lk rfl)) rfl ?_
    refine AB.d 25 rfl (by decide +kernel) rfl (Det.lda Try.isAgg39 Try.sizeOf39 (lk rfl) (Rds.ow (m := 4) 2 rfl rfl) rfl) rfl ?_
    refine AB.u 27 rfl (by decide +kernel) (Dtu.fld fa41_1 (lk rfl)) rfl ?_
    refine AB.d 28 rfl (by decide +kernel) rfl (Det.ld Try.isAgg3 (lk rfl) (Rd.ow 2 rfl rfl)) rfl ?_
    refine AB.u 29 rfl (by decide +kernel) (Dtu.fld fa41_2 (lk rfl)) rfl ?_
    refine AB.d 30 rfl (by decide +kernel) rfl (Det.ld Try.isAgg3 (lk rfl) (Rd.ow 2 rfl rfl)) rfl ?_
    refine AB.u 31 rfl (by decide +kernel) (Dtu.fld fa41_3 (lk rfl)) rfl ?_
    refine AB.d 32 rfl (by decide +kernel) rfl (Det.ld Try.isAgg3 (lk rfl) (Rd.ow 2 rfl rfl)) rfl ?_
    refine AB.u 33 rfl (by decide +kernel) (Dtu.fld fa41_4 (lk rfl)) rfl ?_
    refine AB.d 34 rfl (by decide +kernel) rfl (Det.lda Try.isAgg39 Try.sizeOf39 (lk rfl) (Rds.ow (m := 4) 2 rfl rfl) rfl) rfl ?_
    refine AB.u 36 rfl (by decide +kernel) (Dtu.mv (lk rfl)) rfl ?_
    refine AB.u 37 rfl (by decide +kernel) (Dtu.fld fa41_1 (lk rfl)) rfl ?_
    refine AB.d 38 rfl (by decide +kernel) rfl (Det.ld Try.isAgg3 (lk rfl) (Rd.ow 2 rfl rfl)) rfl ?_
    refine AB.u 39 rfl (by decide +kernel) (Dtu.fld fa41_2 (lk rfl)) rfl ?_
    refine AB.d 40 rfl (by decide +kernel) rfl (Det.ld Try.isAgg3 (lk rfl) (Rd.ow 2 rfl rfl)) rfl ?_
    refine AB.u 41 rfl (by decide +kernel) (Dtu.fld fa41_3 (lk rfl)) rfl ?_
    refine AB.d 42 rfl (by decide +kernel) rfl (Det.ld Try.isAgg3 (lk rfl) (Rd.ow 2 rfl rfl)) rfl ?_
    refine AB.u 43 rfl (by decide +kernel) (Dtu.fld fa41_4 (lk rfl)) rfl ?_
    refine AB.d 44 rfl (by decide +kernel) rfl (Det.lda Try.isAgg39 Try.sizeOf39 (lk rfl) (Rds.ow (m := 4) 2 rfl rfl) rfl) rfl ?_
    refine AB.u 46 rfl (by decide +kernel) (Dtu.fld fa41_4 (lk rfl)) rfl ?_
    refine AB.d 47 rfl (by decide +kernel) rfl (Det.lda Try.isAgg39 Try.sizeOf39 (lk rfl) (Rds.ow (m := 4) 2 rfl rfl) rfl) rfl ?_
    refine AB.more [7, 50] (by decide +kernel) rfl ⟨?_, ?_, trivial⟩
    · refine ABI.s rfl (by decide +kernel) (Stp.call rfl Try.call29 (lks rfl) (fun E' le hat => gput_nil E' _ _ _ _ _ _) ?_) rfl
      rintro _ _ ⟨rfl, rfl⟩
      refine AB.more [16, 50] (by decide +kernel) rfl ⟨?_, ?_, trivial⟩
      · refine ABI.s rfl (by decide +kernel) (Stp.call rfl Try.call30 (lks rfl) (fun E' le hat => gfill_r E' _ _ _ _ _ _ _ _ (by first | exact hat _ (.head _) | exact hat _ (.tail _ (.head _)) | exact hat _ (.tail _ (.tail _ (.head _))) | exact hat _ (.tail _ (.tail _ (.tail _ (.head _)))))) ?_) rfl
        rintro _ _ ⟨rfl, rfl⟩
        refine AB.more [26, 50] (by decide +kernel) rfl ⟨?_, ?_, trivial⟩
        · refine ABI.s rfl (by decide +kernel) (Stp.call rfl Try.call23 (lks rfl) (fun E' le hat => gup_nil E' _ _ _ _ _ _ _) ?_) rfl
          rintro _ _ ⟨rfl, rfl⟩
          refine AB.more [35, 50] (by decide +kernel) rfl ⟨?_, ?_, trivial⟩
          · refine ABI.s rfl (by decide +kernel) (Stp.call rfl Try.call25 (lks rfl) (fun E' le hat => gdown_r E' _ _ _ _ _ _ _ _ (by first | exact hat _ (.head _) | exact hat _ (.tail _ (.head _)) | exact hat _ (.tail _ (.tail _ (.head _))) | exact hat _ (.tail _ (.tail _ (.tail _ (.head _)))))) ?_) rfl
            rintro _ _ ⟨rfl, rfl⟩
            refine AB.more [45, 50] (by decide +kernel) rfl ⟨?_, ?_, trivial⟩
            · refine ABI.s rfl (by decide +kernel) (Stp.call rfl Try.call26 (lks rfl) (fun E' le hat => ginsert_nil E' _ _ _ _ _ _ _) ?_) rfl
              rintro _ _ ⟨rfl, rfl⟩
              refine AB.more [48, 50] (by decide +kernel) rfl ⟨?_, ?_, trivial⟩
              · refine ABI.s rfl (by decide +kernel) (Stp.call rfl Try.call31 (lks rfl) (fun E' le hat => gresize_r E' _ _ _ _ _ _ _ (by first | exact hat _ (.head _) | exact hat _ (.tail _ (.head _)) | exact hat _ (.tail _ (.tail _ (.head _))) | exact hat _ (.tail _ (.tail _ (.tail _ (.head _)))))) ?_) rfl
                rintro _ _ ⟨rfl, rfl⟩
                refine AB.u 49 rfl (by decide +kernel) (Dtu.buildArr ty66 Try.underlying66 Try.sizeOf24 (lkp rfl) rfl rfl) rfl ?_
                refine AB.s 50 rfl (by decide +kernel) (by decide +kernel) (Stp.alloc ty66 (fun b9 => ?_)) rfl
                refine AB.e 51 rfl (by decide +kernel) (by decide +kernel) (Stp.store 0 Try.sizeOf66 (lk rfl) (lk rfl) rfl rfl rfl rfl rfl rfl rfl ?_)
                refine AB.done (by decide +kernel) ?_
                refine Joint.goK [0, 0, 1] b9 rfl rfl rfl ⟨rfl, trivial⟩ rfl rfl trivial
              · refine ABI.s rfl (by decide +kernel) (Stp.alloc ty66 (fun b9 => ?_)) rfl
                refine AB.s 48 rfl (by decide +kernel) (by decide +kernel) (Stp.call rfl Try.call31 (lks rfl) (fun E' le hat => gresize_r E' _ _ _ _ _ _ _ (by first | exact hat _ (.head _) | exact hat _ (.tail _ (.head _)) | exact hat _ (.tail _ (.tail _ (.head _))) | exact hat _ (.tail _ (.tail _ (.tail _ (.head _)))))) ?_) rfl
                rintro _ _ ⟨rfl, rfl⟩
                refine AB.u 49 rfl (by decide +kernel) (Dtu.buildArr ty66 Try.underlying66 Try.sizeOf24 (lkp rfl) rfl rfl) rfl ?_
                refine AB.e 51 rfl (by decide +kernel) (by decide +kernel) (Stp.store 0 Try.sizeOf66 (lk rfl) (lk rfl) rfl rfl rfl rfl rfl rfl rfl ?_)
                refine AB.done (by decide +kernel) ?_
                refine Joint.goK [0, 0, 1] b9 rfl rfl rfl ⟨rfl, trivial⟩ rfl rfl trivial
            · refine ABI.s rfl (by decide +kernel) (Stp.alloc ty66 (fun b9 => ?_)) rfl
              refine AB.s 45 rfl (by decide +kernel) (by decide +kernel) (Stp.call rfl Try.call26 (lks rfl) (fun E' le hat => ginsert_nil E' _ _ _ _ _ _ _) ?_) rfl
              rintro _ _ ⟨rfl, rfl⟩
              refine AB.s 48 rfl (by decide +kernel) (by decide +kernel) (Stp.call rfl Try.call31 (lks rfl) (fun E' le hat => gresize_r E' _ _ _ _ _ _ _ (by first | exact hat _ (.head _) | exact hat _ (.tail _ (.head _)) | exact hat _ (.tail _ (.tail _ (.head _))) | exact hat _ (.tail _ (.tail _ (.tail _ (.head _)))))) ?_) rfl
              rintro _ _ ⟨rfl, rfl⟩
              refine AB.u 49 rfl (by decide +kernel) (Dtu.buildArr ty66 Try.underlying66 Try.sizeOf24 (lkp rfl) rfl rfl) rfl ?_
              refine AB.e 51 rfl (by decide +kernel) (by decide +kernel) (Stp.store 0 Try.sizeOf66 (lk rfl) (lk rfl) rfl rfl rfl rfl rfl rfl rfl ?_)
              refine AB.done (by decide +kernel) ?_
              refine Joint.goK [0, 0, 1] b9 rfl rfl rfl ⟨rfl, trivial⟩ rfl rfl trivial
          · refine ABI.s rfl (by decide +kernel) (Stp.alloc ty66 (fun b9 => ?_)) rfl
            refine AB.s 35 rfl (by decide +kernel) (by decide +kernel) (Stp.call rfl Try.call25 (lks rfl) (fun E' le hat => gdown_r E' _ _ _ _ _ _ _ _ (by first | exact hat _ (.head _) | exact hat _ (.tail _ (.head _)) | exact hat _ (.tail _ (.tail _ (.head _))) | exact hat _ (.tail _ (.tail _ (.tail _ (.head _)))))) ?_) rfl
            rintro _ _ ⟨rfl, rfl⟩
            refine AB.s 45 rfl (by decide +kernel) (by decide +kernel) (Stp.call rfl Try.call26 (lks rfl) (fun E' le hat => ginsert_nil E' _ _ _ _ _ _ _) ?_) rfl
            rintro _ _ ⟨rfl, rfl⟩
            refine AB.s 48 rfl (by decide +kernel) (by decide +kernel) (Stp.call rfl Try.call31 (lks rfl) (fun E' le hat => gresize_r E' _ _ _ _ _ _ _ (by first | exact hat _ (.head _) | exact hat _ (.tail _ (.head _)) | exact hat _ (.tail _ (.tail _ (.head _))) | exact hat _ (.tail _ (.tail _ (.tail _ (.head _)))))) ?_) rfl
            rintro _ _ ⟨rfl, rfl⟩
            refine AB.u 49 rfl (by decide +kernel) (Dtu.buildArr ty66 Try.underlying66 Try.sizeOf24 (lkp rfl) rfl rfl) rfl ?_
            refine AB.e 51 rfl (by decide +kernel) (by decide +kernel) (Stp.store 0 Try.sizeOf66 (lk rfl) (lk rfl) rfl rfl rfl rfl rfl rfl rfl ?_)
            refine AB.done (by decide +kernel) ?_
            refine Joint.goK [0, 0, 1] b9 rfl rfl rfl ⟨rfl, trivial⟩ rfl rfl trivial
        · refine ABI.s rfl (by decide +kernel) (Stp.alloc ty66 (fun b9 => ?_)) rfl
          refine AB.s 26 rfl (by decide +kernel) (by decide +kernel) (Stp.call rfl Try.call23 (lks rfl) (fun E' le hat => gup_nil E' _ _ _ _ _ _ _) ?_) rfl
          rintro _ _ ⟨rfl, rfl⟩
          refine AB.s 35 rfl (by decide +kernel) (by decide +kernel) (Stp.call rfl Try.call25 (lks rfl) (fun E' le hat => gdown_r E' _ _ _ _ _ _ _ _ (by first | exact hat _ (.head _) | exact hat _ (.tail _ (.head _)) | exact hat _ (.tail _ (.tail _ (.head _))) | exact hat _ (.tail _ (.tail _ (.tail _ (.head _)))))) ?_) rfl
          rintro _ _ ⟨rfl, rfl⟩
          refine AB.s 45 rfl (by decide +kernel) (by decide +kernel) (Stp.call rfl Try.call26 (lks rfl) (fun E' le hat => ginsert_nil E' _ _ _ _ _ _ _) ?_) rfl
          rintro _ _ ⟨rfl, rfl⟩
          refine AB.s 48 rfl (by decide +kernel) (by decide +kernel) (Stp.call rfl Try.call31 (lks rfl) (fun E' le hat => gresize_r E' _ _ _ _ _ _ _ (by first | exact hat _ (.head _) | exact hat _ (.tail _ (.head _)) | exact hat _ (.tail _ (.tail _ (.head _))) | exact hat _ (.tail _ (.tail _ (.tail _ (.head _)))))) ?_) rfl
          rintro _ _ ⟨rfl, rfl⟩
          refine AB.u 49 rfl (by decide +kernel) (Dtu.buildArr ty66 Try.underlying66 Try.sizeOf24 (lkp rfl) rfl rfl) rfl ?_
          refine AB.e 51 rfl (by decide +kernel) (by decide +kernel) (Stp.store 0 Try.sizeOf66 (lk rfl) (lk rfl) rfl rfl rfl rfl rfl rfl rfl ?_)
          refine AB.done (by decide +kernel) ?_
          refine Joint.goK [0, 0, 1] b9 rfl rfl rfl ⟨rfl, trivial⟩ rfl rfl trivial
      · refine ABI.s rfl (by decide +kernel) (Stp.alloc ty66 (fun b9 => ?_)) rfl
        refine AB.s 16 rfl (by decide +kernel) (by decide +kernel) (Stp.call rfl Try.call30 (lks rfl) (fun E' le hat => gfill_r E' _ _ _ _ _ _ _ _ (by first | exact hat _ (.head _) | exact hat _ (.tail _ (.head _)) | exact hat _ (.tail _ (.tail _ (.head _))) | exact hat _ (.tail _ (.tail _ (.tail _ (.head _)))))) ?_) rfl
        rintro _ _ ⟨rfl, rfl⟩
        refine AB.s 26 rfl (by decide +kernel) (by decide +kernel) (Stp.call rfl Try.call23 (lks rfl) (fun E' le hat => gup_nil E' _ _ _ _ _ _ _) ?_) rfl
        rintro _ _ ⟨rfl, rfl⟩
        refine AB.s 35 rfl (by decide +kernel) (by decide +kernel) (Stp.call rfl Try.call25 (lks rfl) (fun E' le hat => gdown_r E' _ _ _ _ _ _ _ _ (by first | exact hat _ (.head _) | exact hat _ (.tail _ (.head _)) | exact hat _ (.tail _ (.tail _ (.head _))) | exact hat _ (.tail _ (.tail _ (.tail _ (.head _)))))) ?_) rfl
        rintro _ _ ⟨rfl, rfl⟩
        refine AB.s 45 rfl (by decide +kernel) (by decide +kernel) (Stp.call rfl Try.call26 (lks rfl) (fun E' le hat => ginsert_nil E' _ _ _ _ _ _ _) ?_) rfl
        rintro _ _ ⟨rfl, rfl⟩
        refine AB.s 48 rfl (by decide +kernel) (by decide +kernel) (Stp.call rfl Try.call31 (lks rfl) (fun E' le hat => gresize_r E' _ _ _ _ _ _ _ (by first | exact hat _ (.head _) | exact hat _ (.tail _ (.head _)) | exact hat _ (.tail _ (.tail _ (.head _))) | exact hat _ (.tail _ (.tail _ (.tail _ (.head _)))))) ?_) rfl
        rintro _ _ ⟨rfl, rfl⟩
        refine AB.u 49 rfl (by decide +kernel) (Dtu.buildArr ty66 Try.underlying66 Try.sizeOf24 (lkp rfl) rfl rfl) rfl ?_
        refine AB.e 51 rfl (by decide +kernel) (by decide +kernel) (Stp.store 0 Try.sizeOf66 (lk rfl) (lk rfl) rfl rfl rfl rfl rfl rfl rfl ?_)
        refine AB.done (by decide +kernel) ?_
        refine Joint.goK [0, 0, 1] b9 rfl rfl rfl ⟨rfl, trivial⟩ rfl rfl trivial
    · refine ABI.s rfl (by decide +kernel) (Stp.alloc ty66 (fun b9 => ?_)) rfl
      refine AB.s 7 rfl (by decide +kernel) (by decide +kernel) (Stp.call rfl Try.call29 (lks rfl) (fun E' le hat => gput_nil E' _ _ _ _ _ _) ?_) rfl
      rintro _ _ ⟨rfl, rfl⟩
      refine AB.s 16 rfl (by decide +kernel) (by decide +kernel) (Stp.call rfl Try.call30 (lks rfl) (fun E' le hat => gfill_r E' _ _ _ _ _ _ _ _ (by first | exact hat _ (.head _) | exact hat _ (.tail _ (.head _)) | exact hat _ (.tail _ (.tail _ (.head _))) | exact hat _ (.tail _ (.tail _ (.tail _ (.head _)))))) ?_) rfl
      rintro _ _ ⟨rfl, rfl⟩
      refine AB.s 26 rfl (by decide +kernel) (by decide +kernel) (Stp.call rfl Try.call23 (lks rfl) (fun E' le hat => gup_nil E' _ _ _ _ _ _ _) ?_) rfl
      rintro _ _ ⟨rfl, rfl⟩
      refine AB.s 35 rfl (by decide +kernel) (by decide +kernel) (Stp.call rfl Try.call25 (lks rfl) (fun E' le hat => gdown_r E' _ _ _ _ _ _ _ _ (by first | exact hat _ (.head _) | exact hat _ (.tail _ (.head _)) | exact hat _ (.tail _ (.tail _ (.head _))) | exact hat _ (.tail _ (.tail _ (.tail _ (.head _)))))) ?_) rfl
      rintro _ _ ⟨rfl, rfl⟩
      refine AB.s 45 rfl (by decide +kernel) (by decide +kernel) (Stp.call rfl Try.call26 (lks rfl) (fun E' le hat => ginsert_nil E' _ _ _ _ _ _ _) ?_) rfl
      rintro _ _ ⟨rfl, rfl⟩
      refine AB.s 48 rfl (by decide +kernel) (by decide +kernel) (Stp.call rfl Try.call31 (lks rfl) (fun E' le hat => gresize_r E' _ _ _ _ _ _ _ (by first | exact hat _ (.head _) | exact hat _ (.tail _ (.head _)) | exact hat _ (.tail _ (.tail _ (.head _))) | exact hat _ (.tail _ (.tail _ (.tail _ (.head _)))))) ?_) rfl
      rintro _ _ ⟨rfl, rfl⟩
      refine AB.u 49 rfl (by decide +kernel) (Dtu.buildArr ty66 Try.underlying66 Try.sizeOf24 (lkp rfl) rfl rfl) rfl ?_
      refine AB.e 51 rfl (by decide +kernel) (by decide +kernel) (Stp.store 0 Try.sizeOf66 (lk rfl) (lk rfl) rfl rfl rfl rfl rfl rfl rfl ?_)
      refine AB.done (by decide +kernel) ?_
      refine Joint.goK [0, 0, 1] b9 rfl rfl rfl ⟨rfl, trivial⟩ rfl rfl trivial
  rintro l u0 _
  refine Body.seq ?_
  refine Body.seq ?_
  refine Body.region ?_
  refine Ops.u (Dtu.asg (lk rfl)) rfl ?_
  refine Ops.nil ?_
  refine Then.next ?_
  refine Body.block ?_
  refine Body.loopF (γ := Nat) rfl (fun i => [(10, .int .i64 i)]) (fun i => [own l [.int .i64 6, .int .i64 6, .int .i64 6, .int .i64 6, .int .i64 6, .int .i64 6] 66, own b4 [.int .i64 0, .slice none 0 0] 61, own b1 [.int .i64 kd, .int .i64 oa, .int .i64 ob, .int .i64 on_, .int .i32 p, .int .u8 f, .int .u32 g, .int .u32 q] 41]) (fun i => i ≤ 6) (fun i => 6 - i) 0 (by omega) ⟨rfl, trivial⟩ rfl ?_
  rintro i u hi
  by_cases hlt : i < 6
  · obtain rfl | rfl | rfl | rfl | rfl | rfl : i = 0 ∨ i = 1 ∨ i = 2 ∨ i = 3 ∨ i = 4 ∨ i = 5 := by omega
    · refine Body.seq ?_
      refine Body.seq ?_
      refine Body.region ?_
      refine Ops.u (Dtu.mv (lk rfl)) rfl ?_
      refine Ops.u (Dtu.lss (lk rfl) (lk rfl)) rfl ?_
      refine Ops.nil ?_
      refine Then.next ?_
      refine Body.condP (lk rfl) (fun _ => ?_) (fun hn => absurd (by first | omega | assumption | decide) hn)
      refine Body.skip ?_
      refine Then.next ?_
      refine Body.seq ?_
      refine Body.block ?_
      refine Body.seq ?_
      refine Body.region ?_
      refine Ops.u (Dtu.mv (lk rfl)) rfl ?_
      refine Ops.u (Dtu.ixa (i := 0) Try.underlying66 Try.sizeOf24 (lk rfl) (lk rfl) (by omega) (by omega)) rfl ?_
      refine Ops.d (Det.ld Try.isAgg24 (lk rfl) (Rd.ow 0 rfl rfl)) rfl ?_
      refine Ops.u (Dtu.neq (lk rfl) (lk rfl)) rfl ?_
      refine Ops.nil ?_
      refine Then.next ?_
      refine Body.condP (lk rfl) (fun hy => absurd hy (by first | omega | assumption | decide)) (fun _ => ?_)
      refine Body.skip ?_
      refine Blk.norm ?_
      refine Then.next ?_
      refine Body.region ?_
      refine Ops.u (Dtu.mv (lk rfl)) rfl ?_
      refine Ops.u (Dtu.add (lk rfl) (lk rfl) (w64 (by omega) (by omega))) rfl ?_
      refine Ops.u (Dtu.asg (lk rfl)) rfl ?_
      refine Ops.nil ?_
      exact Round.goF 1 rfl rfl rfl ⟨rfl, trivial⟩ rfl (by decide) (by decide)
    · refine Body.seq ?_
      refine Body.seq ?_
      refine Body.region ?_
      refine Ops.u (Dtu.mv (lk rfl)) rfl ?_
      refine Ops.u (Dtu.lss (lk rfl) (lk rfl)) rfl ?_
      refine Ops.nil ?_
      refine Then.next ?_
      refine Body.condP (lk rfl) (fun _ => ?_) (fun hn => absurd (by first | omega | assumption | decide) hn)
      refine Body.skip ?_
      refine Then.next ?_
      refine Body.seq ?_
      refine Body.block ?_
      refine Body.seq ?_
      refine Body.region ?_
      refine Ops.u (Dtu.mv (lk rfl)) rfl ?_
      refine Ops.u (Dtu.ixa (i := 1) Try.underlying66 Try.sizeOf24 (lk rfl) (lk rfl) (by omega) (by omega)) rfl ?_
      refine Ops.d (Det.ld Try.isAgg24 (lk rfl) (Rd.ow 0 rfl rfl)) rfl ?_
      refine Ops.u (Dtu.neq (lk rfl) (lk rfl)) rfl ?_
      refine Ops.nil ?_
      refine Then.next ?_
      refine Body.condP (lk rfl) (fun hy => absurd hy (by first | omega | assumption | decide)) (fun _ => ?_)
      refine Body.skip ?_
      refine Blk.norm ?_
      refine Then.next ?_
      refine Body.region ?_
      refine Ops.u (Dtu.mv (lk rfl)) rfl ?_
      refine Ops.u (Dtu.add (lk rfl) (lk rfl) (w64 (by omega) (by omega))) rfl ?_
      refine Ops.u (Dtu.asg (lk rfl)) rfl ?_
      refine Ops.nil ?_
      exact Round.goF 2 rfl rfl rfl ⟨rfl, trivial⟩ rfl (by decide) (by decide)
    · refine Body.seq ?_
      refine Body.seq ?_
      refine Body.region ?_
      refine Ops.u (Dtu.mv (lk rfl)) rfl ?_
      refine Ops.u (Dtu.lss (lk rfl) (lk rfl)) rfl ?_
      refine Ops.nil ?_
      refine Then.next ?_
      refine Body.condP (lk rfl) (fun _ => ?_) (fun hn => absurd (by first | omega | assumption | decide) hn)
      refine Body.skip ?_
      refine Then.next ?_
      refine Body.seq ?_
      refine Body.block ?_
      refine Body.seq ?_
      refine Body.region ?_
      refine Ops.u (Dtu.mv (lk rfl)) rfl ?_
      refine Ops.u (Dtu.ixa (i := 2) Try.underlying66 Try.sizeOf24 (lk rfl) (lk rfl) (by omega) (by omega)) rfl ?_
      refine Ops.d (Det.ld Try.isAgg24 (lk rfl) (Rd.ow 0 rfl rfl)) rfl ?_
      refine Ops.u (Dtu.neq (lk rfl) (lk rfl)) rfl ?_
      refine Ops.nil ?_
      refine Then.next ?_
      refine Body.condP (lk rfl) (fun hy => absurd hy (by first | omega | assumption | decide)) (fun _ => ?_)
      refine Body.skip ?_
      refine Blk.norm ?_
      refine Then.next ?_
      refine Body.region ?_
      refine Ops.u (Dtu.mv (lk rfl)) rfl ?_
      refine Ops.u (Dtu.add (lk rfl) (lk rfl) (w64 (by omega) (by omega))) rfl ?_
      refine Ops.u (Dtu.asg (lk rfl)) rfl ?_
      refine Ops.nil ?_
      exact Round.goF 3 rfl rfl rfl ⟨rfl, trivial⟩ rfl (by decide) (by decide)
    · refine Body.seq ?_
      refine Body.seq ?_
      refine Body.region ?_
      refine Ops.u (Dtu.mv (lk rfl)) rfl ?_
      refine Ops.u (Dtu.lss (lk rfl) (lk rfl)) rfl ?_
      refine Ops.nil ?_
      refine Then.next ?_
      refine Body.condP (lk rfl) (fun _ => ?_) (fun hn => absurd (by first | omega | assumption | decide) hn)
      refine Body.skip ?_
      refine Then.next ?_
      refine Body.seq ?_
      refine Body.block ?_
      refine Body.seq ?_
      refine Body.region ?_
      refine Ops.u (Dtu.mv (lk rfl)) rfl ?_
      refine Ops.u (Dtu.ixa (i := 3) Try.underlying66 Try.sizeOf24 (lk rfl) (lk rfl) (by omega) (by omega)) rfl ?_
      refine Ops.d (Det.ld Try.isAgg24 (lk rfl) (Rd.ow 0 rfl rfl)) rfl ?_
      refine Ops.u (Dtu.neq (lk rfl) (lk rfl)) rfl ?_
      refine Ops.nil ?_
      refine Then.next ?_
      refine Body.condP (lk rfl) (fun hy => absurd hy (by first | omega | assumption | decide)) (fun _ => ?_)
      refine Body.skip ?_
      refine Blk.norm ?_
      refine Then.next ?_
      refine Body.region ?_
      refine Ops.u (Dtu.mv (lk rfl)) rfl ?_
      refine Ops.u (Dtu.add (lk rfl) (lk rfl) (w64 (by omega) (by omega))) rfl ?_
      refine Ops.u (Dtu.asg (lk rfl)) rfl ?_
      refine Ops.nil ?_
      exact Round.goF 4 rfl rfl rfl ⟨rfl, trivial⟩ rfl (by decide) (by decide)
    · refine Body.seq ?_
      refine Body.seq ?_
      refine Body.region ?_
      refine Ops.u (Dtu.mv (lk rfl)) rfl ?_
      refine Ops.u (Dtu.lss (lk rfl) (lk rfl)) rfl ?_
      refine Ops.nil ?_
      refine Then.next ?_
      refine Body.condP (lk rfl) (fun _ => ?_) (fun hn => absurd (by first | omega | assumption | decide) hn)
      refine Body.skip ?_
      refine Then.next ?_
      refine Body.seq ?_
      refine Body.block ?_
      refine Body.seq ?_
      refine Body.region ?_
      refine Ops.u (Dtu.mv (lk rfl)) rfl ?_
      refine Ops.u (Dtu.ixa (i := 4) Try.underlying66 Try.sizeOf24 (lk rfl) (lk rfl) (by omega) (by omega)) rfl ?_
      refine Ops.d (Det.ld Try.isAgg24 (lk rfl) (Rd.ow 0 rfl rfl)) rfl ?_
      refine Ops.u (Dtu.neq (lk rfl) (lk rfl)) rfl ?_
      refine Ops.nil ?_
      refine Then.next ?_
      refine Body.condP (lk rfl) (fun hy => absurd hy (by first | omega | assumption | decide)) (fun _ => ?_)
      refine Body.skip ?_
      refine Blk.norm ?_
      refine Then.next ?_
      refine Body.region ?_
      refine Ops.u (Dtu.mv (lk rfl)) rfl ?_
      refine Ops.u (Dtu.add (lk rfl) (lk rfl) (w64 (by omega) (by omega))) rfl ?_
      refine Ops.u (Dtu.asg (lk rfl)) rfl ?_
      refine Ops.nil ?_
      exact Round.goF 5 rfl rfl rfl ⟨rfl, trivial⟩ rfl (by decide) (by decide)
    · refine Body.seq ?_
      refine Body.seq ?_
      refine Body.region ?_
      refine Ops.u (Dtu.mv (lk rfl)) rfl ?_
      refine Ops.u (Dtu.lss (lk rfl) (lk rfl)) rfl ?_
      refine Ops.nil ?_
      refine Then.next ?_
      refine Body.condP (lk rfl) (fun _ => ?_) (fun hn => absurd (by first | omega | assumption | decide) hn)
      refine Body.skip ?_
      refine Then.next ?_
      refine Body.seq ?_
      refine Body.block ?_
      refine Body.seq ?_
      refine Body.region ?_
      refine Ops.u (Dtu.mv (lk rfl)) rfl ?_
      refine Ops.u (Dtu.ixa (i := 5) Try.underlying66 Try.sizeOf24 (lk rfl) (lk rfl) (by omega) (by omega)) rfl ?_
      refine Ops.d (Det.ld Try.isAgg24 (lk rfl) (Rd.ow 0 rfl rfl)) rfl ?_
      refine Ops.u (Dtu.neq (lk rfl) (lk rfl)) rfl ?_
      refine Ops.nil ?_
      refine Then.next ?_
      refine Body.condP (lk rfl) (fun hy => absurd hy (by first | omega | assumption | decide)) (fun _ => ?_)
      refine Body.skip ?_
      refine Blk.norm ?_
      refine Then.next ?_
      refine Body.region ?_
      refine Ops.u (Dtu.mv (lk rfl)) rfl ?_
      refine Ops.u (Dtu.add (lk rfl) (lk rfl) (w64 (by omega) (by omega))) rfl ?_
      refine Ops.u (Dtu.asg (lk rfl)) rfl ?_
      refine Ops.nil ?_
      exact Round.goF 6 rfl rfl rfl ⟨rfl, trivial⟩ rfl (by decide) (by decide)
  · obtain rfl : i = 6 := by omega
    rcases Int.lt_or_le oa 0 with ha | ha
    · refine Body.seq ?_
      refine Body.seq ?_
      refine Body.region ?_
      refine Ops.u (Dtu.mv (lk rfl)) rfl ?_
      refine Ops.u (Dtu.lss (lk rfl) (lk rfl)) rfl ?_
      refine Ops.nil ?_
      refine Then.next ?_
      refine Body.condP (lk rfl) (fun hy => absurd hy (by first | omega | assumption | decide)) (fun _ => ?_)
      refine Body.exit ?_
      refine Then.exit ?_
      refine Round.exit ?_
      refine Blk.here ?_
      refine Then.next ?_
      refine Body.seq ?_
      refine Body.region ?_
      refine Ops.s (Stp.call rfl Try.call12 (lks rfl) (fun E' le hat => gnew34 E') ?_) rfl
      rintro _ _ ⟨nb, na, nc, nr, hnl, hnf, rfl, rfl⟩
      refine Ops.u (Dtu.mv (lk rfl)) rfl ?_
      refine Ops.u (Dtu.ext (lk rfl) rfl) rfl ?_
      refine Ops.u (Dtu.ext (lk rfl) rfl) rfl ?_
      refine Ops.u (Dtu.asg (lk rfl)) rfl ?_
      refine Ops.u (Dtu.asg (lk rfl)) rfl ?_
      refine Ops.nil ?_
      refine Then.next ?_
      refine Body.seq ?_
      refine Body.seq ?_
      refine Body.region ?_
      refine Ops.u (Dtu.mv (lk rfl)) rfl ?_
      refine Ops.u (Dtu.neq (lk rfl) (lk rfl)) rfl ?_
      refine Ops.u (Dtu.mv (lk rfl)) rfl ?_
      refine Ops.decP 94 rfl (fun hy => absurd hy (by first | omega | assumption | decide)) (fun _ => ?_)
      refine Ops.gu rfl rfl rfl (Dtu.mv (lk rfl)) rfl ?_
      refine Ops.gu rfl rfl rfl (Dtu.eqNil Try.underlying23 (lk rfl) (lk rfl)) rfl ?_
      refine Ops.u (Dtu.pickF (lk rfl) (lk rfl)) rfl ?_
      refine Ops.nil ?_
      refine Then.next ?_
      refine Body.condF (lk rfl) ?_
      refine Body.skip ?_
      refine Then.next ?_
      refine Body.seq ?_
      refine Body.region ?_
      refine Ops.u (Dtu.mv (lk rfl)) rfl ?_
      refine Ops.u (Dtu.fld fa41_1 (lk rfl)) rfl ?_
      refine Ops.d (Det.ld Try.isAgg3 (lk rfl) (Rd.ow 5 rfl rfl)) rfl ?_
      refine Ops.s (Stp.callOwn [0] rfl rfl Try.call28 (lks rfl) (fun E' le hat => gline34n E' _ _ _ _ (by omega)) ?_) rfl
      rintro _ _ ⟨rfl, rfl⟩
      refine Ops.u (Dtu.mv (lk rfl)) rfl ?_
      refine Ops.u (Dtu.ext (lk rfl) rfl) rfl ?_
      refine Ops.u (Dtu.ext (lk rfl) rfl) rfl ?_
      refine Ops.u (Dtu.asg (lk rfl)) rfl ?_
      refine Ops.u (Dtu.asg (lk rfl)) rfl ?_
      refine Ops.nil ?_
      refine Then.next ?_
      refine Body.seq ?_
      refine Body.region ?_
      refine Ops.s (Stp.call rfl Try.call14 (lks rfl) (fun E' le hat => alive17_ok E') ?_) rfl
      rintro _ _ ⟨rfl, rfl⟩
      refine Ops.u (Dtu.mv (lk rfl)) rfl ?_
      refine Ops.gu rfl rfl rfl (Dtu.mv (lk rfl)) rfl ?_
      refine Ops.gu rfl rfl rfl (Dtu.eql (lk rfl) (lk rfl)) rfl ?_
      refine Ops.u (Dtu.pickT (lk rfl) (lk rfl)) rfl ?_
      refine Ops.u (Dtu.mv (lk rfl)) rfl ?_
      refine Ops.decP 110 rfl (fun _ => ?_) (fun hn => absurd (by first | omega | assumption | decide) hn)
      refine Ops.gu rfl rfl rfl (Dtu.mv (lk rfl)) rfl ?_
      refine Ops.gu rfl rfl rfl (Dtu.eql (lk rfl) (lk rfl)) rfl ?_
      refine Ops.u (Dtu.pickT (lk rfl) (lk rfl)) rfl ?_
      refine Ops.u (Dtu.mv (lk rfl)) rfl ?_
      refine Ops.decP 114 rfl (fun _ => ?_) (fun hn => absurd (by first | omega | assumption | decide) hn)
      refine Ops.gu rfl rfl rfl (Dtu.mv (lk rfl)) rfl ?_
      refine Ops.gs rfl rfl rfl (Stp.call rfl Try.call32 (lks rfl) (fun E' le hat => growsn_nil E') ?_) rfl
      rintro _ _ ⟨rfl, rfl⟩
      refine Ops.gs rfl rfl rfl (Stp.callOwn [4] rfl rfl Try.call33 (lks rfl) (fun E' le hat => gcolsn_ok E' _ _ _ _ _) ?_) rfl
      rintro _ _ ⟨rfl, rfl⟩
      refine Ops.gu rfl rfl rfl (Dtu.add (lk rfl) (lk rfl) (w64 (by omega) (by omega))) rfl ?_
      refine Ops.gu rfl rfl rfl (Dtu.eql (lk rfl) (lk rfl)) rfl ?_
      refine Ops.u (Dtu.pickT (lk rfl) (lk rfl)) rfl ?_
      refine Ops.u (Dtu.mv (lk rfl)) rfl ?_
      refine Ops.decP 121 rfl (fun _ => ?_) (fun hn => absurd (by first | omega | assumption | decide) hn)
      refine Ops.gu rfl rfl rfl (Dtu.mv (lk rfl)) rfl ?_
      refine Ops.gs rfl rfl rfl (Stp.call rfl Try.call34 (lks rfl) (fun E' le hat => gcopy_nil E') ?_) rfl
      rintro _ _ ⟨rfl, rfl⟩
      refine Ops.gu rfl rfl rfl (Dtu.eqNil Try.underlying23 (lk rfl) (lk rfl)) rfl ?_
      refine Ops.u (Dtu.pickT (lk rfl) (lk rfl)) rfl ?_
      refine Ops.u (Dtu.mv (lk rfl)) rfl ?_
      refine Ops.gu rfl rfl rfl (Dtu.mv (lk rfl)) rfl ?_
      refine Ops.gu rfl rfl rfl (Dtu.mv (lk rfl)) rfl ?_
      refine Ops.gs rfl rfl rfl (Stp.call rfl Try.call35 (lks rfl) (fun E' le hat => gsame_nil1 E' _) ?_) rfl
      rintro _ _ ⟨rfl, rfl⟩
      refine Ops.gu rfl rfl rfl (Dtu.not (lk rfl)) rfl ?_
      refine Ops.u (Dtu.pickT (lk rfl) (lk rfl)) rfl ?_
      refine Ops.u (Dtu.mv (lk rfl)) rfl ?_
      refine Ops.gu rfl rfl rfl (Dtu.mv (lk rfl)) rfl ?_
      refine Ops.gu rfl rfl rfl (Dtu.mv (lk rfl)) rfl ?_
      refine Ops.gs rfl rfl rfl (Stp.callOwn [1] rfl rfl Try.call35 (lks rfl) (fun E' le hat => gsame_nil2 E' _ _ _ _ _ (by omega)) ?_) rfl
      rintro _ _ ⟨rfl, rfl⟩
      refine Ops.gu rfl rfl rfl (Dtu.not (lk rfl)) rfl ?_
      refine Ops.u (Dtu.pickT (lk rfl) (lk rfl)) rfl ?_
      refine Ops.u (Dtu.mv (lk rfl)) rfl ?_
      refine Ops.gu rfl rfl rfl (Dtu.mv (lk rfl)) rfl ?_
      refine Ops.gu rfl rfl rfl (Dtu.eql (lk rfl) (lk rfl)) rfl ?_
      refine Ops.gu rfl rfl rfl (Dtu.fld fa41_1 (lk rfl)) rfl ?_
      refine Ops.gd rfl rfl rfl (Det.ld Try.isAgg3 (lk rfl) (Rd.ow 5 rfl rfl)) rfl ?_
      refine Ops.gu rfl rfl rfl (Dtu.geq (lk rfl) (lk rfl)) rfl ?_
      refine Ops.gu rfl rfl rfl (Dtu.mv (lk rfl)) rfl ?_
      refine Ops.decP 144 rfl (fun hy => absurd hy (by first | omega | assumption | decide)) (fun _ => ?_)
      refine Ops.gn rfl rfl rfl rfl rfl ?_
      refine Ops.gn rfl rfl rfl rfl rfl ?_
      refine Ops.gn rfl rfl rfl rfl rfl ?_
      refine Ops.gu rfl rfl rfl (Dtu.pickF (lk rfl) (lk rfl)) rfl ?_
      refine Ops.gu rfl rfl rfl (Dtu.eqB Try.underlying4 (lk rfl) (lk rfl)) rfl ?_
      refine Ops.u (Dtu.pickT (lk rfl) (lk rfl)) rfl ?_
      refine Ops.u (Dtu.mv (lk rfl)) rfl ?_
      refine Ops.decP 151 rfl (fun _ => ?_) (fun hn => absurd (by first | omega | assumption | decide) hn)
      refine Ops.gu rfl rfl rfl (Dtu.mv (lk rfl)) rfl ?_
      refine Ops.gu rfl rfl rfl (Dtu.neq (lk rfl) (lk rfl)) rfl ?_
      refine Ops.gu rfl rfl rfl (Dtu.mv (lk rfl)) rfl ?_
      refine Ops.decP 154 rfl (fun _ => ?_) (fun hn => absurd (by first | omega | assumption | decide) hn)
      refine Ops.gn rfl rfl rfl rfl rfl ?_
      refine Ops.gn rfl rfl rfl rfl rfl ?_
      refine Ops.gn rfl rfl rfl rfl rfl ?_
      refine Ops.gu rfl rfl rfl (Dtu.pickT (lk rfl) (lk rfl)) rfl ?_
      refine Ops.u (Dtu.pickT (lk rfl) (lk rfl)) rfl ?_
      refine Ops.u (Dtu.asg (lk rfl)) rfl ?_
      refine Ops.nil ?_
      refine Then.next ?_
      refine Body.ret ?_
      (first | exact ⟨.inr rfl, _, pk [] rfl, rfl, rfl⟩ | (exfalso; simp_all <;> omega))
    rcases Int.lt_or_le oa 3 with hb | hb
    · refine Body.seq ?_
      refine Body.seq ?_
      refine Body.region ?_
      refine Ops.u (Dtu.mv (lk rfl)) rfl ?_
      refine Ops.u (Dtu.lss (lk rfl) (lk rfl)) rfl ?_
      refine Ops.nil ?_
      refine Then.next ?_
      refine Body.condP (lk rfl) (fun hy => absurd hy (by first | omega | assumption | decide)) (fun _ => ?_)
      refine Body.exit ?_
      refine Then.exit ?_
      refine Round.exit ?_
      refine Blk.here ?_
      refine Then.next ?_
      refine Body.seq ?_
      refine Body.region ?_
      refine Ops.s (Stp.call rfl Try.call12 (lks rfl) (fun E' le hat => gnew34 E') ?_) rfl
      rintro _ _ ⟨nb, na, nc, nr, hnl, hnf, rfl, rfl⟩
      refine Ops.u (Dtu.mv (lk rfl)) rfl ?_
      refine Ops.u (Dtu.ext (lk rfl) rfl) rfl ?_
      refine Ops.u (Dtu.ext (lk rfl) rfl) rfl ?_
      refine Ops.u (Dtu.asg (lk rfl)) rfl ?_
      refine Ops.u (Dtu.asg (lk rfl)) rfl ?_
      refine Ops.nil ?_
      refine Then.next ?_
      refine Body.seq ?_
      refine Body.seq ?_
      refine Body.region ?_
      refine Ops.u (Dtu.mv (lk rfl)) rfl ?_
      refine Ops.u (Dtu.neq (lk rfl) (lk rfl)) rfl ?_
      refine Ops.u (Dtu.mv (lk rfl)) rfl ?_
      refine Ops.decP 94 rfl (fun hy => absurd hy (by first | omega | assumption | decide)) (fun _ => ?_)
      refine Ops.gu rfl rfl rfl (Dtu.mv (lk rfl)) rfl ?_
      refine Ops.gu rfl rfl rfl (Dtu.eqNil Try.underlying23 (lk rfl) (lk rfl)) rfl ?_
      refine Ops.u (Dtu.pickF (lk rfl) (lk rfl)) rfl ?_
      refine Ops.nil ?_
      refine Then.next ?_
      refine Body.condF (lk rfl) ?_
      refine Body.skip ?_
      refine Then.next ?_
      refine Body.seq ?_
      refine Body.region ?_
      refine Ops.u (Dtu.mv (lk rfl)) rfl ?_
      refine Ops.u (Dtu.fld fa41_1 (lk rfl)) rfl ?_
      refine Ops.d (Det.ld Try.isAgg3 (lk rfl) (Rd.ow 5 rfl rfl)) rfl ?_
      refine Ops.s (Stp.callOwn [0, 0, 0] rfl rfl Try.call28 (lks rfl) (fun E' le hat => gline34 E' _ _ _ _ hnl hnf _ (by omega) (by omega)) ?_) rfl
      rintro _ _ ⟨z1, z3, zc, rfl, rfl⟩
      refine Ops.u (Dtu.mv (lk rfl)) rfl ?_
      refine Ops.u (Dtu.ext (lk rfl) rfl) rfl ?_
      refine Ops.u (Dtu.ext (lk rfl) rfl) rfl ?_
      refine Ops.u (Dtu.asg (lk rfl)) rfl ?_
      refine Ops.u (Dtu.asg (lk rfl)) rfl ?_
      refine Ops.nil ?_
      refine Then.next ?_
      refine Body.seq ?_
      refine Body.region ?_
      refine Ops.s (Stp.call rfl Try.call14 (lks rfl) (fun E' le hat => alive17_ok E') ?_) rfl
      rintro _ _ ⟨rfl, rfl⟩
      refine Ops.u (Dtu.mv (lk rfl)) rfl ?_
      refine Ops.gu rfl rfl rfl (Dtu.mv (lk rfl)) rfl ?_
      refine Ops.gu rfl rfl rfl (Dtu.eql (lk rfl) (lk rfl)) rfl ?_
      refine Ops.u (Dtu.pickT (lk rfl) (lk rfl)) rfl ?_
      refine Ops.u (Dtu.mv (lk rfl)) rfl ?_
      refine Ops.decP 110 rfl (fun _ => ?_) (fun hn => absurd (by first | omega | assumption | decide) hn)
      refine Ops.gu rfl rfl rfl (Dtu.mv (lk rfl)) rfl ?_
      refine Ops.gu rfl rfl rfl (Dtu.eql (lk rfl) (lk rfl)) rfl ?_
      refine Ops.u (Dtu.pickT (lk rfl) (lk rfl)) rfl ?_
      refine Ops.u (Dtu.mv (lk rfl)) rfl ?_
      refine Ops.decP 114 rfl (fun _ => ?_) (fun hn => absurd (by first | omega | assumption | decide) hn)
      refine Ops.gu rfl rfl rfl (Dtu.mv (lk rfl)) rfl ?_
      refine Ops.gs rfl rfl rfl (Stp.call rfl Try.call32 (lks rfl) (fun E' le hat => growsn_nil E') ?_) rfl
      rintro _ _ ⟨rfl, rfl⟩
      refine Ops.gs rfl rfl rfl (Stp.callOwn [5] rfl rfl Try.call33 (lks rfl) (fun E' le hat => gcolsn_ok E' _ _ _ _ _) ?_) rfl
      rintro _ _ ⟨rfl, rfl⟩
      refine Ops.gu rfl rfl rfl (Dtu.add (lk rfl) (lk rfl) (w64 (by omega) (by omega))) rfl ?_
      refine Ops.gu rfl rfl rfl (Dtu.eql (lk rfl) (lk rfl)) rfl ?_
      refine Ops.u (Dtu.pickT (lk rfl) (lk rfl)) rfl ?_
      refine Ops.u (Dtu.mv (lk rfl)) rfl ?_
      refine Ops.decP 121 rfl (fun _ => ?_) (fun hn => absurd (by first | omega | assumption | decide) hn)
      refine Ops.gu rfl rfl rfl (Dtu.mv (lk rfl)) rfl ?_
      refine Ops.gs rfl rfl rfl (Stp.call rfl Try.call34 (lks rfl) (fun E' le hat => gcopy_nil E') ?_) rfl
      rintro _ _ ⟨rfl, rfl⟩
      refine Ops.gu rfl rfl rfl (Dtu.eqNil Try.underlying23 (lk rfl) (lk rfl)) rfl ?_
      refine Ops.u (Dtu.pickT (lk rfl) (lk rfl)) rfl ?_
      refine Ops.u (Dtu.mv (lk rfl)) rfl ?_
      refine Ops.gu rfl rfl rfl (Dtu.mv (lk rfl)) rfl ?_
      refine Ops.gu rfl rfl rfl (Dtu.mv (lk rfl)) rfl ?_
      refine Ops.gs rfl rfl rfl (Stp.call rfl Try.call35 (lks rfl) (fun E' le hat => gsame_nil1 E' _) ?_) rfl
      rintro _ _ ⟨rfl, rfl⟩
      refine Ops.gu rfl rfl rfl (Dtu.not (lk rfl)) rfl ?_
      refine Ops.u (Dtu.pickT (lk rfl) (lk rfl)) rfl ?_
      refine Ops.u (Dtu.mv (lk rfl)) rfl ?_
      refine Ops.gu rfl rfl rfl (Dtu.mv (lk rfl)) rfl ?_
      refine Ops.gu rfl rfl rfl (Dtu.mv (lk rfl)) rfl ?_
      refine Ops.gs rfl rfl rfl (Stp.callOwn [1] rfl rfl Try.call35 (lks rfl) (fun E' le hat => gsame_nil2 E' _ _ _ _ _ (by omega)) ?_) rfl
      rintro _ _ ⟨rfl, rfl⟩
      refine Ops.gu rfl rfl rfl (Dtu.not (lk rfl)) rfl ?_
      refine Ops.u (Dtu.pickT (lk rfl) (lk rfl)) rfl ?_
      refine Ops.u (Dtu.mv (lk rfl)) rfl ?_
      refine Ops.gu rfl rfl rfl (Dtu.mv (lk rfl)) rfl ?_
      refine Ops.gu rfl rfl rfl (Dtu.eql (lk rfl) (lk rfl)) rfl ?_
      refine Ops.gu rfl rfl rfl (Dtu.fld fa41_1 (lk rfl)) rfl ?_
      refine Ops.gd rfl rfl rfl (Det.ld Try.isAgg3 (lk rfl) (Rd.ow 6 rfl rfl)) rfl ?_
      refine Ops.gu rfl rfl rfl (Dtu.geq (lk rfl) (lk rfl)) rfl ?_
      refine Ops.gu rfl rfl rfl (Dtu.mv (lk rfl)) rfl ?_
      refine Ops.decP 144 rfl (fun _ => ?_) (fun hn => absurd (by first | omega | assumption | decide) hn)
      refine Ops.gu rfl rfl rfl (Dtu.fld fa41_1 (lk rfl)) rfl ?_
      refine Ops.gd rfl rfl rfl (Det.ld Try.isAgg3 (lk rfl) (Rd.ow 6 rfl rfl)) rfl ?_
      refine Ops.gu rfl rfl rfl (Dtu.lss (lk rfl) (lk rfl)) rfl ?_
      refine Ops.gu rfl rfl rfl (Dtu.pickT (lk rfl) (lk rfl)) rfl ?_
      refine Ops.gu rfl rfl rfl (Dtu.eqB Try.underlying4 (lk rfl) (lk rfl)) rfl ?_
      refine Ops.u (Dtu.pickT (lk rfl) (lk rfl)) rfl ?_
      refine Ops.u (Dtu.mv (lk rfl)) rfl ?_
      refine Ops.decP 151 rfl (fun c151 => ?_) (fun c151 => ?_)
      · refine Ops.gu rfl rfl rfl (Dtu.mv (lk rfl)) rfl ?_
        refine Ops.gu rfl rfl rfl (Dtu.neq (lk rfl) (lk rfl)) rfl ?_
        refine Ops.gu rfl rfl rfl (Dtu.mv (lk rfl)) rfl ?_
        refine Ops.decP 154 rfl (fun hy => absurd hy (by first | omega | assumption | decide)) (fun _ => ?_)
        refine Ops.gu rfl rfl rfl (Dtu.mv (lk rfl)) rfl ?_
        refine Ops.gu rfl rfl rfl (Dtu.lenS Try.underlying62 (Sl.osl 4 rfl) (lk rfl)) rfl ?_
        refine Ops.gu rfl rfl rfl (Dtu.eql (lk rfl) (lk rfl)) rfl ?_
        refine Ops.gu rfl rfl rfl (Dtu.pickF (lk rfl) (lk rfl)) rfl ?_
        refine Ops.u (Dtu.pickT (lk rfl) (lk rfl)) rfl ?_
        refine Ops.u (Dtu.asg (lk rfl)) rfl ?_
        refine Ops.nil ?_
        refine Then.next ?_
        refine Body.ret ?_
        (first | exact ⟨.inr rfl, _, pk [] rfl, rfl, rfl⟩ | (exfalso; simp_all <;> omega))
      · refine Ops.gn rfl rfl rfl rfl rfl ?_
        refine Ops.gn rfl rfl rfl rfl rfl ?_
        refine Ops.gn rfl rfl rfl rfl rfl ?_
        refine Ops.gn rfl rfl rfl rfl rfl ?_
        refine Ops.gn rfl rfl rfl rfl rfl ?_
        refine Ops.gn rfl rfl rfl rfl rfl ?_
        refine Ops.gn rfl rfl rfl rfl rfl ?_
        refine Ops.u (Dtu.pickF (lk rfl) (lk rfl)) rfl ?_
        refine Ops.u (Dtu.asg (lk rfl)) rfl ?_
        refine Ops.nil ?_
        refine Then.next ?_
        refine Body.ret ?_
        (first | exact ⟨.inr rfl, _, pk [] rfl, rfl, rfl⟩ | (exfalso; simp_all <;> omega))
    · refine Body.seq ?_
      refine Body.seq ?_
      refine Body.region ?_
      refine Ops.u (Dtu.mv (lk rfl)) rfl ?_
      refine Ops.u (Dtu.lss (lk rfl) (lk rfl)) rfl ?_
      refine Ops.nil ?_
      refine Then.next ?_
      refine Body.condP (lk rfl) (fun hy => absurd hy (by first | omega | assumption | decide)) (fun _ => ?_)
      refine Body.exit ?_
      refine Then.exit ?_
      refine Round.exit ?_
      refine Blk.here ?_
      refine Then.next ?_
      refine Body.seq ?_
      refine Body.region ?_
      refine Ops.s (Stp.call rfl Try.call12 (lks rfl) (fun E' le hat => gnew34 E') ?_) rfl
      rintro _ _ ⟨nb, na, nc, nr, hnl, hnf, rfl, rfl⟩
      refine Ops.u (Dtu.mv (lk rfl)) rfl ?_
      refine Ops.u (Dtu.ext (lk rfl) rfl) rfl ?_
      refine Ops.u (Dtu.ext (lk rfl) rfl) rfl ?_
      refine Ops.u (Dtu.asg (lk rfl)) rfl ?_
      refine Ops.u (Dtu.asg (lk rfl)) rfl ?_
      refine Ops.nil ?_
      refine Then.next ?_
      refine Body.seq ?_
      refine Body.seq ?_
      refine Body.region ?_
      refine Ops.u (Dtu.mv (lk rfl)) rfl ?_
      refine Ops.u (Dtu.neq (lk rfl) (lk rfl)) rfl ?_
      refine Ops.u (Dtu.mv (lk rfl)) rfl ?_
      refine Ops.decP 94 rfl (fun hy => absurd hy (by first | omega | assumption | decide)) (fun _ => ?_)
      refine Ops.gu rfl rfl rfl (Dtu.mv (lk rfl)) rfl ?_
      refine Ops.gu rfl rfl rfl (Dtu.eqNil Try.underlying23 (lk rfl) (lk rfl)) rfl ?_
      refine Ops.u (Dtu.pickF (lk rfl) (lk rfl)) rfl ?_
      refine Ops.nil ?_
      refine Then.next ?_
      refine Body.condF (lk rfl) ?_
      refine Body.skip ?_
      refine Then.next ?_
      refine Body.seq ?_
      refine Body.region ?_
      refine Ops.u (Dtu.mv (lk rfl)) rfl ?_
      refine Ops.u (Dtu.fld fa41_1 (lk rfl)) rfl ?_
      refine Ops.d (Det.ld Try.isAgg3 (lk rfl) (Rd.ow 5 rfl rfl)) rfl ?_
      refine Ops.s (Stp.callOwn [0] rfl rfl Try.call28 (lks rfl) (fun E' le hat => gline34n E' _ _ _ _ (by omega)) ?_) rfl
      rintro _ _ ⟨rfl, rfl⟩
      refine Ops.u (Dtu.mv (lk rfl)) rfl ?_
      refine Ops.u (Dtu.ext (lk rfl) rfl) rfl ?_
      refine Ops.u (Dtu.ext (lk rfl) rfl) rfl ?_
      refine Ops.u (Dtu.asg (lk rfl)) rfl ?_
      refine Ops.u (Dtu.asg (lk rfl)) rfl ?_
      refine Ops.nil ?_
      refine Then.next ?_
      refine Body.seq ?_
      refine Body.region ?_
      refine Ops.s (Stp.call rfl Try.call14 (lks rfl) (fun E' le hat => alive17_ok E') ?_) rfl
      rintro _ _ ⟨rfl, rfl⟩
      refine Ops.u (Dtu.mv (lk rfl)) rfl ?_
      refine Ops.gu rfl rfl rfl (Dtu.mv (lk rfl)) rfl ?_
      refine Ops.gu rfl rfl rfl (Dtu.eql (lk rfl) (lk rfl)) rfl ?_
      refine Ops.u (Dtu.pickT (lk rfl) (lk rfl)) rfl ?_
      refine Ops.u (Dtu.mv (lk rfl)) rfl ?_
      refine Ops.decP 110 rfl (fun _ => ?_) (fun hn => absurd (by first | omega | assumption | decide) hn)
      refine Ops.gu rfl rfl rfl (Dtu.mv (lk rfl)) rfl ?_
      refine Ops.gu rfl rfl rfl (Dtu.eql (lk rfl) (lk rfl)) rfl ?_
      refine Ops.u (Dtu.pickT (lk rfl) (lk rfl)) rfl ?_
      refine Ops.u (Dtu.mv (lk rfl)) rfl ?_
      refine Ops.decP 114 rfl (fun _ => ?_) (fun hn => absurd (by first | omega | assumption | decide) hn)
      refine Ops.gu rfl rfl rfl (Dtu.mv (lk rfl)) rfl ?_
      refine Ops.gs rfl rfl rfl (Stp.call rfl Try.call32 (lks rfl) (fun E' le hat => growsn_nil E') ?_) rfl
      rintro _ _ ⟨rfl, rfl⟩
      refine Ops.gs rfl rfl rfl (Stp.callOwn [4] rfl rfl Try.call33 (lks rfl) (fun E' le hat => gcolsn_ok E' _ _ _ _ _) ?_) rfl
      rintro _ _ ⟨rfl, rfl⟩
      refine Ops.gu rfl rfl rfl (Dtu.add (lk rfl) (lk rfl) (w64 (by omega) (by omega))) rfl ?_
      refine Ops.gu rfl rfl rfl (Dtu.eql (lk rfl) (lk rfl)) rfl ?_
      refine Ops.u (Dtu.pickT (lk rfl) (lk rfl)) rfl ?_
      refine Ops.u (Dtu.mv (lk rfl)) rfl ?_
      refine Ops.decP 121 rfl (fun _ => ?_) (fun hn => absurd (by first | omega | assumption | decide) hn)
      refine Ops.gu rfl rfl rfl (Dtu.mv (lk rfl)) rfl ?_
      refine Ops.gs rfl rfl rfl (Stp.call rfl Try.call34 (lks rfl) (fun E' le hat => gcopy_nil E') ?_) rfl
      rintro _ _ ⟨rfl, rfl⟩
      refine Ops.gu rfl rfl rfl (Dtu.eqNil Try.underlying23 (lk rfl) (lk rfl)) rfl ?_
      refine Ops.u (Dtu.pickT (lk rfl) (lk rfl)) rfl ?_
      refine Ops.u (Dtu.mv (lk rfl)) rfl ?_
      refine Ops.gu rfl rfl rfl (Dtu.mv (lk rfl)) rfl ?_
      refine Ops.gu rfl rfl rfl (Dtu.mv (lk rfl)) rfl ?_
      refine Ops.gs rfl rfl rfl (Stp.call rfl Try.call35 (lks rfl) (fun E' le hat => gsame_nil1 E' _) ?_) rfl
      rintro _ _ ⟨rfl, rfl⟩
      refine Ops.gu rfl rfl rfl (Dtu.not (lk rfl)) rfl ?_
      refine Ops.u (Dtu.pickT (lk rfl) (lk rfl)) rfl ?_
      refine Ops.u (Dtu.mv (lk rfl)) rfl ?_
      refine Ops.gu rfl rfl rfl (Dtu.mv (lk rfl)) rfl ?_
      refine Ops.gu rfl rfl rfl (Dtu.mv (lk rfl)) rfl ?_
      refine Ops.gs rfl rfl rfl (Stp.callOwn [1] rfl rfl Try.call35 (lks rfl) (fun E' le hat => gsame_nil2 E' _ _ _ _ _ (by omega)) ?_) rfl
      rintro _ _ ⟨rfl, rfl⟩
      refine Ops.gu rfl rfl rfl (Dtu.not (lk rfl)) rfl ?_
      refine Ops.u (Dtu.pickT (lk rfl) (lk rfl)) rfl ?_
      refine Ops.u (Dtu.mv (lk rfl)) rfl ?_
      refine Ops.gu rfl rfl rfl (Dtu.mv (lk rfl)) rfl ?_
      refine Ops.gu rfl rfl rfl (Dtu.eql (lk rfl) (lk rfl)) rfl ?_
      refine Ops.gu rfl rfl rfl (Dtu.fld fa41_1 (lk rfl)) rfl ?_
      refine Ops.gd rfl rfl rfl (Det.ld Try.isAgg3 (lk rfl) (Rd.ow 5 rfl rfl)) rfl ?_
      refine Ops.gu rfl rfl rfl (Dtu.geq (lk rfl) (lk rfl)) rfl ?_
      refine Ops.gu rfl rfl rfl (Dtu.mv (lk rfl)) rfl ?_
      refine Ops.decP 144 rfl (fun _ => ?_) (fun hn => absurd (by first | omega | assumption | decide) hn)
      refine Ops.gu rfl rfl rfl (Dtu.fld fa41_1 (lk rfl)) rfl ?_
      refine Ops.gd rfl rfl rfl (Det.ld Try.isAgg3 (lk rfl) (Rd.ow 5 rfl rfl)) rfl ?_
      refine Ops.gu rfl rfl rfl (Dtu.lss (lk rfl) (lk rfl)) rfl ?_
      refine Ops.gu rfl rfl rfl (Dtu.pickT (lk rfl) (lk rfl)) rfl ?_
      refine Ops.gu rfl rfl rfl (Dtu.eqB Try.underlying4 (lk rfl) (lk rfl)) rfl ?_
      refine Ops.u (Dtu.pickT (lk rfl) (lk rfl)) rfl ?_
      refine Ops.u (Dtu.mv (lk rfl)) rfl ?_
      refine Ops.decP 151 rfl (fun c151 => ?_) (fun c151 => ?_)
      · refine Ops.gu rfl rfl rfl (Dtu.mv (lk rfl)) rfl ?_
        refine Ops.gu rfl rfl rfl (Dtu.neq (lk rfl) (lk rfl)) rfl ?_
        refine Ops.gu rfl rfl rfl (Dtu.mv (lk rfl)) rfl ?_
        refine Ops.decP 154 rfl (fun _ => ?_) (fun hn => absurd (by first | omega | assumption | decide) hn)
        refine Ops.gn rfl rfl rfl rfl rfl ?_
        refine Ops.gn rfl rfl rfl rfl rfl ?_
        refine Ops.gn rfl rfl rfl rfl rfl ?_
        refine Ops.gu rfl rfl rfl (Dtu.pickT (lk rfl) (lk rfl)) rfl ?_
        refine Ops.u (Dtu.pickT (lk rfl) (lk rfl)) rfl ?_
        refine Ops.u (Dtu.asg (lk rfl)) rfl ?_
        refine Ops.nil ?_
        refine Then.next ?_
        refine Body.ret ?_
        (first | exact ⟨.inr rfl, _, pk [] rfl, rfl, rfl⟩ | (exfalso; simp_all <;> omega))
      · refine Ops.gn rfl rfl rfl rfl rfl ?_
        refine Ops.gn rfl rfl rfl rfl rfl ?_
        refine Ops.gn rfl rfl rfl rfl rfl ?_
        refine Ops.gn rfl rfl rfl rfl rfl ?_
        refine Ops.gn rfl rfl rfl rfl rfl ?_
        refine Ops.gn rfl rfl rfl rfl rfl ?_
        refine Ops.gn rfl rfl rfl rfl rfl ?_
        refine Ops.u (Dtu.pickF (lk rfl) (lk rfl)) rfl ?_
        refine Ops.u (Dtu.asg (lk rfl)) rfl ?_
        refine Ops.nil ?_
        refine Then.next ?_
        refine Body.ret ?_
        (first | exact ⟨.inr rfl, _, pk [] rfl, rfl, rfl⟩ | (exfalso; simp_all <;> omega))
end Go.Proofs.Ytpmapedhigjalaa
end
section
/- A call as an argument, for GridNobody. -/
namespace Go.Proofs.Ytpmapedhigjalaa
end Go.Proofs.Ytpmapedhigjalaa
end
section
/- 'Rows.GridNobodySaid': longlinelaw17.GridNobody returns true, whatever call comes in; it reads as it did. -/
namespace Go.Proofs.Ytpmapedhigjalaa.gridNobody
open Go.Sx Go.ChangeShapes Go.WideShapes Go.ChangeAt Go.RowKit
set_option linter.unusedVariables false

theorem own : ownKnob Try.prog.godebug = none := by kernel_rfl
theorem laidOut : laidOutB Try.prog = true := by kernel_rfl
theorem pars : (Try.f5.params.toList.all fun t => Try.prog.readableRec t && decide (t < Try.prog.types.size)) = true := by kernel_rfl

set_option maxRecDepth 100000 in
theorem lifted (os : Os) (started : os.Started) (H : Type) (enc : TypeId × Value → H) :
    ReturnsInHanded {} Try.checked os 5 .any (Rows.gridNobodySpec.pre6 enc Try.prog Try.f5 Rows.gridNobodyRow.domain false) (Rows.gridNobodySpec.post enc Try.prog Try.f5 false true false false) := by
  refine returnsInHanded_of_change (C := Try.checked) own started (by kernel_rfl) Try.func5
    (ChangeSpec.witness6 (enc := enc) (C := Try.checked) false ⟨#[], #[.agg #[.int .i64 0, .int .i64 0, .int .i64 0, .int .i64 0, .int .i32 0, .int .u8 0, .int .u32 0, .int .u32 0]], []⟩ 8 (by kernel_rfl) (by kernel_rfl) (by kernel_rfl) (by kernel_rfl)) ?_
  intro W base args ds gs before hval0 hW hcnd _
  have hval : ∀ (j : Nat) t v, Try.f5.params[j]? = some t → args[j]? = some v → Value.okWide Try.prog W .any base t v := hval0
  have hW' := hW
  obtain ⟨p, q, hA0, hV, rfl, hfz, hnd⟩ := hW
  have hA : DataW.TrodAll enc Try.prog W 0 (fun _ => true) true Try.f5.params.toList args.toList ds p := hA0
  rw [Try.params5] at hA hval
  obtain ⟨v0, vs0, d0, ds0, p0, q0, hargs, rfl, rfl, h0, r0⟩ := trodAll_cons hA
  obtain ⟨rfl, rfl, rfl⟩ := trodAll_nil r0
  obtain rfl : args = #[v0] := by cases args; simp_all
  obtain ⟨⟨ok_, oa, ob, on_, ⟨op, of_, og, oq⟩⟩, rfl, hc⟩ := open_op (hval 0 41 v0 rfl rfl) h0
  refine (nobody_ok (envOf W) ok_ oa ob on_ op of_ og oq W St.all).mono ?_
  rintro e W' ⟨r, H', rfl, ⟨rfl, rfl⟩, s'⟩
  refine ⟨_, rfl, post_of_below (tb := 4) rfl rfl rfl Try.underlying4 laidOut (fun t ht => ?_) hW' (below_of_St s')⟩
  · have := List.all_eq_true.1 pars t ht
    rw [Bool.and_eq_true, decide_eq_true_eq] at this
    exact this

theorem over : Rows.gridNobodyRow.holds Try.pinned (OpenSpec.ofChange Rows.gridNobodySpec) :=
  OpenClaim.holds_of_wide 5 Try.f5 rfl rfl rfl rfl rfl rfl rfl ⟨rfl, rfl, rfl, rfl, rfl⟩ rfl rfl rfl rfl rfl (by kernel_rfl) Try.func5 (by kernel_rfl)
    (of_decide_eq_true (by kernel_rfl)) (by unfold Func.isWrapper; first | (rw [if_pos (by decide +kernel)]; kernel_rfl) | (rw [if_neg (by decide +kernel)]; exact ⟨rfl, rfl⟩))
    (fun os started H enc _ => lifted os started H enc)

theorem proved : Rows.GridNobodySaid := over
end Go.Proofs.Ytpmapedhigjalaa.gridNobody
end
