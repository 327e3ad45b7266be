/- QNvc: SynC, SynD, SynE, SynF, SynG, SynH, SynI, SynJ, SynK, OpenS, SynL. -/
import Derived.Test.YtagcpamchgpgiaaRva
import Derived.Test.YtagcpamchgpgiaaRvb
import Derived.Test.YtagcpamchgpgiaaRvc
import Derived.Test.YtagcpamchgpgiaaRvd
section
/- sync: a sender's first contracts. -/
namespace Go.Proofs.Ytagcpamchgpgiaa
set_option maxRecDepth 100000
set_option maxHeartbeats 4000000
set_option linter.unusedVariables false
set_option linter.unusedSimpArgs false
open Go.Sx

theorem is_b (E : Env) (o : Nat) (a b : Ver) (qa : Option Addr) (l : List Ver) (qc : Nat) (last whn : Int) : Does Try.prog 51 #[.pointer (some ⟨o, 0, none⟩)] E ([own o [.bool true, .int .u64 (a.n : Nat), .int .i64 a.x.v.rows, .int .i64 a.x.v.cols, a.s, .int .i64 a.x.v.row, .int .i64 a.x.v.col, .bool a.x.v.vis, .string a.x.title, .string a.x.clip, .int .u64 a.x.clips, .int .u64 a.x.bells, .int .u64 (b.n : Nat), .int .i64 b.x.v.rows, .int .i64 b.x.v.cols, b.s, .int .i64 b.x.v.row, .int .i64 b.x.v.col, .bool b.x.v.vis, .string b.x.title, .string b.x.clip, .int .u64 b.x.clips, .int .u64 b.x.bells, .slice qa l.length qc, .int .u64 last, .int .i64 whn] 102]) fun r H' => r = .bool true ∧ H' = [own o [.bool true, .int .u64 (a.n : Nat), .int .i64 a.x.v.rows, .int .i64 a.x.v.cols, a.s, .int .i64 a.x.v.row, .int .i64 a.x.v.col, .bool a.x.v.vis, .string a.x.title, .string a.x.clip, .int .u64 a.x.clips, .int .u64 a.x.bells, .int .u64 (b.n : Nat), .int .i64 b.x.v.rows, .int .i64 b.x.v.cols, b.s, .int .i64 b.x.v.row, .int .i64 b.x.v.col, .bool b.x.v.vis, .string b.x.title, .string b.x.clip, .int .u64 b.x.clips, .int .u64 b.x.bells, .slice qa l.length qc, .int .u64 last, .int .i64 whn] 102] := by
  refine Does.go _ _ Try.func51 rfl Try.ntmps51 rfl rfl ?_
  refine Body.seq ?_
  refine Body.region ?_
  refine Ops.u (Dtu.asg (lk rfl)) rfl ?_
  refine Ops.nil ?_
  refine Then.next ?_
  refine Body.seq ?_
  refine Body.region ?_
  refine Ops.u (Dtu.mv (lk rfl)) rfl ?_
  refine Ops.u (Dtu.neNil Try.underlying54 (lk rfl) (lk rfl)) rfl ?_
  refine Ops.u (Dtu.mv (lk rfl)) rfl ?_
  refine Ops.gu rfl rfl rfl (Dtu.mv (lk rfl)) rfl ?_
  refine Ops.gu rfl rfl rfl (Dtu.nilck (lk rfl)) rfl ?_
  refine Ops.gu rfl rfl rfl (Dtu.fld fa102_0 (lk rfl)) rfl ?_
  refine Ops.gd rfl rfl rfl (Det.ld Try.isAgg4 (lk rfl) (Rd.ow 0 rfl rfl)) rfl ?_
  refine Ops.u (Dtu.pickT (lk rfl) (lk rfl)) rfl ?_
  refine Ops.u (Dtu.asg (lk rfl)) rfl ?_
  refine Ops.nil ?_
  refine Then.next ?_
  refine Body.ret ?_
  exact ⟨.inr rfl, _, pk [0] rfl, rfl, rfl⟩
theorem first_v (E : Env) : Does Try.prog 49 #[] E ([]) fun r H' => ∃ (f : Stt) (_ : f = Stt.first) (m1 : Option Addr) (m2 m3 : Nat), r = .agg #[.int .u64 0, .int .i64 f.v.rows, .int .i64 f.v.cols, .slice m1 m2 m3, .int .i64 f.v.row, .int .i64 f.v.col, .bool f.v.vis, .string f.title, .string f.clip, .int .u64 f.clips, .int .u64 f.bells] ∧ H' = [osl 127 4 (.slice m1 m2 m3) f.v.cells.length (f.v.cells.flatMap Cell.enc)] := by
  refine Does.go _ _ Try.func49 rfl Try.ntmps49 rfl rfl ?_
  refine Body.seq ?_
  refine Body.region ?_
  refine Ops.s (Stp.alloc ty98 (fun b0 => ?_)) rfl
  refine Ops.nil ?_
  refine Then.next ?_
  refine Body.seq ?_
  refine Body.region ?_
  refine Ops.s (Stp.call rfl Try.call23 (lks rfl) (fun E' le hat => sfirstG_ok E') ?_) rfl
  rintro _ _ ⟨f1, fe1, fa1, fm1, fc1, rfl, rfl⟩
  refine Ops.u (Dtu.build ty98 pl98 (lkp rfl) rfl rfl) rfl ?_
  refine Ops.e (Stp.store 1 Try.sizeOf98 (lk rfl) (lk rfl) rfl rfl rfl rfl rfl rfl rfl ?_)
  refine Ops.nil ?_
  refine Then.next ?_
  refine Body.ret ?_
  exact ⟨.inr rfl, _, Loads.agg Try.isAgg98 Try.sizeOf98 (Rds.ow (m := 11) 1 rfl rfl) rfl, _, pk [0] rfl, _, fe1, _, _, _, rfl, rfl⟩
theorem now_b (E : Env) (o : Nat) (a b : Ver) (qa : Option Addr) (l : List Ver) (qc : Nat) (last whn : Int) (ha : a.has E) (hb : a.x.v.cells.length ≤ 1000) : Does Try.prog 25 #[.pointer (some ⟨o, 0, none⟩)] E ([own o [.bool true, .int .u64 (a.n : Nat), .int .i64 a.x.v.rows, .int .i64 a.x.v.cols, a.s, .int .i64 a.x.v.row, .int .i64 a.x.v.col, .bool a.x.v.vis, .string a.x.title, .string a.x.clip, .int .u64 a.x.clips, .int .u64 a.x.bells, .int .u64 (b.n : Nat), .int .i64 b.x.v.rows, .int .i64 b.x.v.cols, b.s, .int .i64 b.x.v.row, .int .i64 b.x.v.col, .bool b.x.v.vis, .string b.x.title, .string b.x.clip, .int .u64 b.x.clips, .int .u64 b.x.bells, .slice qa l.length qc, .int .u64 last, .int .i64 whn] 102]) fun r H' => ∃ m1 m2 m3, r = .tuple #[.int .u64 (a.n : Nat), .agg #[.int .i64 a.x.v.rows, .int .i64 a.x.v.cols, .slice m1 m2 m3, .int .i64 a.x.v.row, .int .i64 a.x.v.col, .bool a.x.v.vis, .string a.x.title, .string a.x.clip, .int .u64 a.x.clips, .int .u64 a.x.bells]] ∧ H' = [own o [.bool true, .int .u64 (a.n : Nat), .int .i64 a.x.v.rows, .int .i64 a.x.v.cols, a.s, .int .i64 a.x.v.row, .int .i64 a.x.v.col, .bool a.x.v.vis, .string a.x.title, .string a.x.clip, .int .u64 a.x.clips, .int .u64 a.x.bells, .int .u64 (b.n : Nat), .int .i64 b.x.v.rows, .int .i64 b.x.v.cols, b.s, .int .i64 b.x.v.row, .int .i64 b.x.v.col, .bool b.x.v.vis, .string b.x.title, .string b.x.clip, .int .u64 b.x.clips, .int .u64 b.x.bells, .slice qa l.length qc, .int .u64 last, .int .i64 whn] 102, osl 127 4 (.slice m1 m2 m3) a.x.v.cells.length (a.x.v.cells.flatMap Cell.enc)] := by
  unfold Ver.has View.has at ha
  refine Does.go _ _ Try.func25 rfl Try.ntmps25 rfl rfl ?_
  refine Body.seq ?_
  refine Body.region ?_
  refine Ops.u (Dtu.asg (lk rfl)) rfl ?_
  refine Ops.s (Stp.alloc ty62 (fun b3 => ?_)) rfl
  refine Ops.nil ?_
  refine Then.next ?_
  refine Body.seq ?_
  refine Body.seq ?_
  refine Body.region ?_
  refine Ops.u (Dtu.mv (lk rfl)) rfl ?_
  refine Ops.s (Stp.callOwn [1] rfl rfl Try.call51 (lks rfl) (fun E' le hat => is_b E' _ _ _ _ _ _ _ _) ?_) rfl
  rintro _ _ ⟨rfl, rfl⟩
  refine Ops.u (Dtu.not (lk rfl)) rfl ?_
  refine Ops.nil ?_
  refine Then.next ?_
  refine Body.condF (lk rfl) ?_
  refine Body.skip ?_
  refine Then.next ?_
  refine Body.seq ?_
  refine Body.drawE [0] mixed rfl ?_
  rintro E3' le3 ⟨hA3_0, -⟩
  have ha_3 := Sl.mono ha le3
  refine AE.u 0 rfl (by decide +kernel) (Dtu.mv (lk rfl)) rfl ?_
  refine AE.u 1 rfl (by decide +kernel) (Dtu.nilck (lk rfl)) rfl ?_
  refine AE.u 2 rfl (by decide +kernel) (Dtu.fld fa102_1 (lk rfl)) rfl ?_
  refine AE.u 3 rfl (by decide +kernel) (Dtu.fld fa98_0 (lk rfl)) rfl ?_
  refine AE.d 4 rfl (by decide +kernel) (Det.ld Try.isAgg22 (lk rfl) (Rd.env (own_at hA3_0 rfl))) rfl ?_
  refine AE.u 5 rfl (by decide +kernel) (Dtu.mv (lk rfl)) rfl ?_
  refine AE.u 6 rfl (by decide +kernel) (Dtu.nilck (lk rfl)) rfl ?_
  refine AE.u 7 rfl (by decide +kernel) (Dtu.fld fa102_1 (lk rfl)) rfl ?_
  refine AE.u 8 rfl (by decide +kernel) (Dtu.fld fa98_1 (lk rfl)) rfl ?_
  refine AE.d 9 rfl (by decide +kernel) (Det.lda Try.isAgg62 Try.sizeOf62 (lk rfl) (Rds.at (m := 10) hA3_0 rfl) rfl) rfl ?_
  refine AE.more [10] (by decide +kernel) rfl ⟨?_, trivial⟩
  refine AEI.s rfl (Stp.call rfl Try.call52 (lks rfl) (fun E' le hat => copied_ok E' a.x a.s (Sl.mono (by assumption) le) (by omega)) ?_) rfl
  rintro _ _ ⟨ma18, mb18, mc18, rfl, rfl⟩
  refine AE.u 11 rfl (by decide +kernel) (Dtu.asg (lk rfl)) rfl ?_
  refine AE.more [12] (by decide +kernel) rfl ⟨?_, trivial⟩
  refine AEI.e rfl (Stp.store 1 Try.sizeOf62 (lk rfl) (lk rfl) rfl rfl rfl rfl rfl rfl rfl ?_)
  refine AE.done (by decide +kernel) ?_
  refine Then.next ?_
  refine Body.ret ?_
  exact ⟨.inr rfl, _, Loads.agg Try.isAgg62 Try.sizeOf62 (Rds.ow (m := 10) 1 rfl rfl) rfl, _, pk [2, 0] rfl, _, _, _, rfl, rfl⟩
theorem base_b (E : Env) (o : Nat) (a b : Ver) (qa : Option Addr) (l : List Ver) (qc : Nat) (last whn : Int) : Does Try.prog 34 #[.pointer (some ⟨o, 0, none⟩)] E ([own o [.bool true, .int .u64 (a.n : Nat), .int .i64 a.x.v.rows, .int .i64 a.x.v.cols, a.s, .int .i64 a.x.v.row, .int .i64 a.x.v.col, .bool a.x.v.vis, .string a.x.title, .string a.x.clip, .int .u64 a.x.clips, .int .u64 a.x.bells, .int .u64 (b.n : Nat), .int .i64 b.x.v.rows, .int .i64 b.x.v.cols, b.s, .int .i64 b.x.v.row, .int .i64 b.x.v.col, .bool b.x.v.vis, .string b.x.title, .string b.x.clip, .int .u64 b.x.clips, .int .u64 b.x.bells, .slice qa l.length qc, .int .u64 last, .int .i64 whn] 102]) fun r H' => r = .int .u64 (b.n : Nat) ∧ H' = [own o [.bool true, .int .u64 (a.n : Nat), .int .i64 a.x.v.rows, .int .i64 a.x.v.cols, a.s, .int .i64 a.x.v.row, .int .i64 a.x.v.col, .bool a.x.v.vis, .string a.x.title, .string a.x.clip, .int .u64 a.x.clips, .int .u64 a.x.bells, .int .u64 (b.n : Nat), .int .i64 b.x.v.rows, .int .i64 b.x.v.cols, b.s, .int .i64 b.x.v.row, .int .i64 b.x.v.col, .bool b.x.v.vis, .string b.x.title, .string b.x.clip, .int .u64 b.x.clips, .int .u64 b.x.bells, .slice qa l.length qc, .int .u64 last, .int .i64 whn] 102] := by
  refine Does.go _ _ Try.func34 rfl Try.ntmps34 rfl rfl ?_
  refine Body.seq ?_
  refine Body.region ?_
  refine Ops.u (Dtu.asg (lk rfl)) rfl ?_
  refine Ops.nil ?_
  refine Then.next ?_
  refine Body.seq ?_
  refine Body.seq ?_
  refine Body.region ?_
  refine Ops.u (Dtu.mv (lk rfl)) rfl ?_
  refine Ops.s (Stp.callOwn [0] rfl rfl Try.call51 (lks rfl) (fun E' le hat => is_b E' _ _ _ _ _ _ _ _) ?_) rfl
  rintro _ _ ⟨rfl, rfl⟩
  refine Ops.u (Dtu.not (lk rfl)) rfl ?_
  refine Ops.nil ?_
  refine Then.next ?_
  refine Body.condF (lk rfl) ?_
  refine Body.skip ?_
  refine Then.next ?_
  refine Body.seq ?_
  refine Body.region ?_
  refine Ops.u (Dtu.mv (lk rfl)) rfl ?_
  refine Ops.u (Dtu.nilck (lk rfl)) rfl ?_
  refine Ops.u (Dtu.fld fa102_2 (lk rfl)) rfl ?_
  refine Ops.u (Dtu.fld fa98_0 (lk rfl)) rfl ?_
  refine Ops.d (Det.ld Try.isAgg22 (lk rfl) (Rd.ow 0 rfl rfl)) rfl ?_
  refine Ops.u (Dtu.asg (lk rfl)) rfl ?_
  refine Ops.nil ?_
  refine Then.next ?_
  refine Body.ret ?_
  exact ⟨.inr rfl, _, pk [0] rfl, rfl, rfl⟩
def lateF (whn now wait : Int) : Bool := (decide (whn ≤ now) && decide (wait ≤ now - whn)) || (decide (now < whn) && decide (wait ≤ 0))
def dueF (an bn last whn now wait : Int) : Bool := decide (an ≠ last) || (decide (bn < last) && lateF whn now wait)
theorem due_b (E : Env) (o : Nat) (a b : Ver) (qa : Option Addr) (l : List Ver) (qc : Nat) (last whn : Int) (now wait : Int) (h1 : -1000000 ≤ now) (h2 : now ≤ 1000000) (h3 : -1000000 ≤ whn) (h4 : whn ≤ 1000000) : Does Try.prog 32 #[.pointer (some ⟨o, 0, none⟩), .int .i64 now, .int .i64 wait] E ([own o [.bool true, .int .u64 (a.n : Nat), .int .i64 a.x.v.rows, .int .i64 a.x.v.cols, a.s, .int .i64 a.x.v.row, .int .i64 a.x.v.col, .bool a.x.v.vis, .string a.x.title, .string a.x.clip, .int .u64 a.x.clips, .int .u64 a.x.bells, .int .u64 (b.n : Nat), .int .i64 b.x.v.rows, .int .i64 b.x.v.cols, b.s, .int .i64 b.x.v.row, .int .i64 b.x.v.col, .bool b.x.v.vis, .string b.x.title, .string b.x.clip, .int .u64 b.x.clips, .int .u64 b.x.bells, .slice qa l.length qc, .int .u64 last, .int .i64 whn] 102]) fun r H' => r = .bool (dueF a.n b.n last whn now wait) ∧ H' = [own o [.bool true, .int .u64 (a.n : Nat), .int .i64 a.x.v.rows, .int .i64 a.x.v.cols, a.s, .int .i64 a.x.v.row, .int .i64 a.x.v.col, .bool a.x.v.vis, .string a.x.title, .string a.x.clip, .int .u64 a.x.clips, .int .u64 a.x.bells, .int .u64 (b.n : Nat), .int .i64 b.x.v.rows, .int .i64 b.x.v.cols, b.s, .int .i64 b.x.v.row, .int .i64 b.x.v.col, .bool b.x.v.vis, .string b.x.title, .string b.x.clip, .int .u64 b.x.clips, .int .u64 b.x.bells, .slice qa l.length qc, .int .u64 last, .int .i64 whn] 102] := by
  refine Does.go _ _ Try.func32 rfl Try.ntmps32 rfl rfl ?_
  refine Body.seq ?_
  refine Body.region ?_
  refine Ops.u (Dtu.asg (lk rfl)) rfl ?_
  refine Ops.nil ?_
  refine Then.next ?_
  refine Body.seq ?_
  refine Body.seq ?_
  refine Body.region ?_
  refine Ops.u (Dtu.mv (lk rfl)) rfl ?_
  refine Ops.s (Stp.callOwn [0] rfl rfl Try.call51 (lks rfl) (fun E' le hat => is_b E' _ _ _ _ _ _ _ _) ?_) rfl
  rintro _ _ ⟨rfl, rfl⟩
  refine Ops.u (Dtu.not (lk rfl)) rfl ?_
  refine Ops.nil ?_
  refine Then.next ?_
  refine Body.condF (lk rfl) ?_
  refine Body.skip ?_
  refine Then.next ?_
  refine Body.seq ?_
  refine Body.region ?_
  refine Ops.u (Dtu.mv (lk rfl)) rfl ?_
  refine Ops.u (Dtu.mv (lk rfl)) rfl ?_
  refine Ops.u (Dtu.nilck (lk rfl)) rfl ?_
  refine Ops.u (Dtu.fld fa102_5 (lk rfl)) rfl ?_
  refine Ops.d (Det.ld Try.isAgg3 (lk rfl) (Rd.ow 0 rfl rfl)) rfl ?_
  refine Ops.u (Dtu.geq (lk rfl) (lk rfl)) rfl ?_
  refine Ops.u (Dtu.mv (lk rfl)) rfl ?_
  refine Ops.decP 17 rfl (fun c17 => ?_) (fun c17 => ?_)
  · refine Ops.gu rfl rfl rfl (Dtu.mv (lk rfl)) rfl ?_
    refine Ops.gu rfl rfl rfl (Dtu.mv (lk rfl)) rfl ?_
    refine Ops.gu rfl rfl rfl (Dtu.nilck (lk rfl)) rfl ?_
    refine Ops.gu rfl rfl rfl (Dtu.fld fa102_5 (lk rfl)) rfl ?_
    refine Ops.gd rfl rfl rfl (Det.ld Try.isAgg3 (lk rfl) (Rd.ow 0 rfl rfl)) rfl ?_
    refine Ops.gu rfl rfl rfl (Dtu.sub (lk rfl) (lk rfl) (w64 (by omega) (by omega))) rfl ?_
    refine Ops.gu rfl rfl rfl (Dtu.mv (lk rfl)) rfl ?_
    refine Ops.gu rfl rfl rfl (Dtu.geq (lk rfl) (lk rfl)) rfl ?_
    refine Ops.u (Dtu.pickT (lk rfl) (lk rfl)) rfl ?_
    refine Ops.u (Dtu.mv (lk rfl)) rfl ?_
    refine Ops.decP 27 rfl (fun c27 => ?_) (fun c27 => ?_)
    · refine Ops.gn rfl rfl rfl rfl rfl ?_
      refine Ops.gn rfl rfl rfl rfl rfl ?_
      refine Ops.gn rfl rfl rfl rfl rfl ?_
      refine Ops.gn rfl rfl rfl rfl rfl ?_
      refine Ops.gn rfl rfl rfl rfl rfl ?_
      refine Ops.gn rfl rfl rfl rfl rfl ?_
      refine Ops.gn rfl rfl rfl rfl rfl ?_
      refine Ops.gn rfl rfl rfl rfl rfl ?_
      refine Ops.gn rfl rfl rfl rfl rfl ?_
      refine Ops.gn rfl rfl rfl rfl rfl ?_
      refine Ops.u (Dtu.pickT (lk rfl) (lk rfl)) rfl ?_
      refine Ops.u (Dtu.asg (lk rfl)) rfl ?_
      refine Ops.nil ?_
      refine Then.next ?_
      refine Body.seq ?_
      refine Body.draw mixed ?_
      refine AB.u 0 rfl (by decide +kernel) (Dtu.mv (lk rfl)) rfl ?_
      refine AB.u 1 rfl (by decide +kernel) (Dtu.nilck (lk rfl)) rfl ?_
      refine AB.u 2 rfl (by decide +kernel) (Dtu.fld fa102_1 (lk rfl)) rfl ?_
      refine AB.u 3 rfl (by decide +kernel) (Dtu.fld fa98_0 (lk rfl)) rfl ?_
      refine AB.d 4 rfl (by decide +kernel) rfl (Det.ld Try.isAgg22 (lk rfl) (Rd.ow 0 rfl rfl)) rfl ?_
      refine AB.u 5 rfl (by decide +kernel) (Dtu.mv (lk rfl)) rfl ?_
      refine AB.u 6 rfl (by decide +kernel) (Dtu.nilck (lk rfl)) rfl ?_
      refine AB.u 7 rfl (by decide +kernel) (Dtu.fld fa102_4 (lk rfl)) rfl ?_
      refine AB.d 8 rfl (by decide +kernel) rfl (Det.ld Try.isAgg22 (lk rfl) (Rd.ow 0 rfl rfl)) rfl ?_
      refine AB.u 9 rfl (by decide +kernel) (Dtu.neq (lk rfl) (lk rfl)) rfl ?_
      refine AB.u 10 rfl (by decide +kernel) (Dtu.mv (lk rfl)) rfl ?_
      refine AB.decP 49 rfl (fun c49 => ?_) (fun c49 => ?_)
      · refine AB.gn 11 rfl (by decide +kernel) rfl rfl rfl rfl rfl ?_
        refine AB.gn 12 rfl (by decide +kernel) rfl rfl rfl rfl rfl ?_
        refine AB.gn 13 rfl (by decide +kernel) rfl rfl rfl rfl rfl ?_
        refine AB.gn 14 rfl (by decide +kernel) rfl rfl rfl rfl rfl ?_
        refine AB.gn 15 rfl (by decide +kernel) rfl rfl rfl rfl rfl ?_
        refine AB.gn 16 rfl (by decide +kernel) rfl rfl rfl rfl rfl ?_
        refine AB.gn 17 rfl (by decide +kernel) rfl rfl rfl rfl rfl ?_
        refine AB.gn 18 rfl (by decide +kernel) rfl rfl rfl rfl rfl ?_
        refine AB.gn 19 rfl (by decide +kernel) rfl rfl rfl rfl rfl ?_
        refine AB.gn 20 rfl (by decide +kernel) rfl rfl rfl rfl rfl ?_
        refine AB.gn 21 rfl (by decide +kernel) rfl rfl rfl rfl rfl ?_
        refine AB.gn 22 rfl (by decide +kernel) rfl rfl rfl rfl rfl ?_
        refine AB.gn 23 rfl (by decide +kernel) rfl rfl rfl rfl rfl ?_
        refine AB.u 24 rfl (by decide +kernel) (Dtu.pickT (lk rfl) (lk rfl)) rfl ?_
        refine AB.u 25 rfl (by decide +kernel) (Dtu.asg (lk rfl)) rfl ?_
        refine AB.done (by decide +kernel) ?_
        refine Then.next ?_
        refine Body.ret ?_
        exact ⟨.inr rfl, _, pk [0] rfl, bool_eq (by unfold dueF lateF; simp; omega), rfl⟩
      · refine AB.gu 11 rfl (by decide +kernel) rfl rfl rfl (Dtu.mv (lk rfl)) rfl ?_
        refine AB.gu 12 rfl (by decide +kernel) rfl rfl rfl (Dtu.nilck (lk rfl)) rfl ?_
        refine AB.gu 13 rfl (by decide +kernel) rfl rfl rfl (Dtu.fld fa102_4 (lk rfl)) rfl ?_
        refine AB.gd 14 rfl (by decide +kernel) rfl rfl rfl rfl (Det.ld Try.isAgg22 (lk rfl) (Rd.ow 0 rfl rfl)) rfl ?_
        refine AB.gu 15 rfl (by decide +kernel) rfl rfl rfl (Dtu.mv (lk rfl)) rfl ?_
        refine AB.gu 16 rfl (by decide +kernel) rfl rfl rfl (Dtu.nilck (lk rfl)) rfl ?_
        refine AB.gu 17 rfl (by decide +kernel) rfl rfl rfl (Dtu.fld fa102_2 (lk rfl)) rfl ?_
        refine AB.gu 18 rfl (by decide +kernel) rfl rfl rfl (Dtu.fld fa98_0 (lk rfl)) rfl ?_
        refine AB.gd 19 rfl (by decide +kernel) rfl rfl rfl rfl (Det.ld Try.isAgg22 (lk rfl) (Rd.ow 0 rfl rfl)) rfl ?_
        refine AB.gu 20 rfl (by decide +kernel) rfl rfl rfl (Dtu.gtr (lk rfl) (lk rfl)) rfl ?_
        refine AB.gu 21 rfl (by decide +kernel) rfl rfl rfl (Dtu.mv (lk rfl)) rfl ?_
        refine AB.decP 60 rfl (fun c60 => ?_) (fun c60 => ?_)
        · refine AB.gu 22 rfl (by decide +kernel) rfl rfl rfl (Dtu.mv (lk rfl)) rfl ?_
          refine AB.gu 23 rfl (by decide +kernel) rfl rfl rfl (Dtu.pickT (lk rfl) (lk rfl)) rfl ?_
          refine AB.u 24 rfl (by decide +kernel) (Dtu.pickF (lk rfl) (lk rfl)) rfl ?_
          refine AB.u 25 rfl (by decide +kernel) (Dtu.asg (lk rfl)) rfl ?_
          refine AB.done (by decide +kernel) ?_
          refine Then.next ?_
          refine Body.ret ?_
          exact ⟨.inr rfl, _, pk [0] rfl, bool_eq (by unfold dueF lateF; simp; omega), rfl⟩
        · refine AB.gn 22 rfl (by decide +kernel) rfl rfl rfl rfl rfl ?_
          refine AB.gu 23 rfl (by decide +kernel) rfl rfl rfl (Dtu.pickF (lk rfl) (lk rfl)) rfl ?_
          refine AB.u 24 rfl (by decide +kernel) (Dtu.pickF (lk rfl) (lk rfl)) rfl ?_
          refine AB.u 25 rfl (by decide +kernel) (Dtu.asg (lk rfl)) rfl ?_
          refine AB.done (by decide +kernel) ?_
          refine Then.next ?_
          refine Body.ret ?_
          exact ⟨.inr rfl, _, pk [0] rfl, bool_eq (by unfold dueF lateF; simp; omega), rfl⟩
    · refine Ops.gu rfl rfl rfl (Dtu.mv (lk rfl)) rfl ?_
      refine Ops.gu rfl rfl rfl (Dtu.mv (lk rfl)) rfl ?_
      refine Ops.gu rfl rfl rfl (Dtu.nilck (lk rfl)) rfl ?_
      refine Ops.gu rfl rfl rfl (Dtu.fld fa102_5 (lk rfl)) rfl ?_
      refine Ops.gd rfl rfl rfl (Det.ld Try.isAgg3 (lk rfl) (Rd.ow 0 rfl rfl)) rfl ?_
      refine Ops.gu rfl rfl rfl (Dtu.lss (lk rfl) (lk rfl)) rfl ?_
      refine Ops.gu rfl rfl rfl (Dtu.mv (lk rfl)) rfl ?_
      refine Ops.decP 34 rfl (fun hy => absurd hy (by first | omega | assumption | decide)) (fun _ => ?_)
      refine Ops.gn rfl rfl rfl rfl rfl ?_
      refine Ops.gn rfl rfl rfl rfl rfl ?_
      refine Ops.gu rfl rfl rfl (Dtu.pickF (lk rfl) (lk rfl)) rfl ?_
      refine Ops.u (Dtu.pickF (lk rfl) (lk rfl)) rfl ?_
      refine Ops.u (Dtu.asg (lk rfl)) rfl ?_
      refine Ops.nil ?_
      refine Then.next ?_
      refine Body.seq ?_
      refine Body.draw mixed ?_
      refine AB.u 0 rfl (by decide +kernel) (Dtu.mv (lk rfl)) rfl ?_
      refine AB.u 1 rfl (by decide +kernel) (Dtu.nilck (lk rfl)) rfl ?_
      refine AB.u 2 rfl (by decide +kernel) (Dtu.fld fa102_1 (lk rfl)) rfl ?_
      refine AB.u 3 rfl (by decide +kernel) (Dtu.fld fa98_0 (lk rfl)) rfl ?_
      refine AB.d 4 rfl (by decide +kernel) rfl (Det.ld Try.isAgg22 (lk rfl) (Rd.ow 0 rfl rfl)) rfl ?_
      refine AB.u 5 rfl (by decide +kernel) (Dtu.mv (lk rfl)) rfl ?_
      refine AB.u 6 rfl (by decide +kernel) (Dtu.nilck (lk rfl)) rfl ?_
      refine AB.u 7 rfl (by decide +kernel) (Dtu.fld fa102_4 (lk rfl)) rfl ?_
      refine AB.d 8 rfl (by decide +kernel) rfl (Det.ld Try.isAgg22 (lk rfl) (Rd.ow 0 rfl rfl)) rfl ?_
      refine AB.u 9 rfl (by decide +kernel) (Dtu.neq (lk rfl) (lk rfl)) rfl ?_
      refine AB.u 10 rfl (by decide +kernel) (Dtu.mv (lk rfl)) rfl ?_
      refine AB.decP 49 rfl (fun c49 => ?_) (fun c49 => ?_)
      · refine AB.gn 11 rfl (by decide +kernel) rfl rfl rfl rfl rfl ?_
        refine AB.gn 12 rfl (by decide +kernel) rfl rfl rfl rfl rfl ?_
        refine AB.gn 13 rfl (by decide +kernel) rfl rfl rfl rfl rfl ?_
        refine AB.gn 14 rfl (by decide +kernel) rfl rfl rfl rfl rfl ?_
        refine AB.gn 15 rfl (by decide +kernel) rfl rfl rfl rfl rfl ?_
        refine AB.gn 16 rfl (by decide +kernel) rfl rfl rfl rfl rfl ?_
        refine AB.gn 17 rfl (by decide +kernel) rfl rfl rfl rfl rfl ?_
        refine AB.gn 18 rfl (by decide +kernel) rfl rfl rfl rfl rfl ?_
        refine AB.gn 19 rfl (by decide +kernel) rfl rfl rfl rfl rfl ?_
        refine AB.gn 20 rfl (by decide +kernel) rfl rfl rfl rfl rfl ?_
        refine AB.gn 21 rfl (by decide +kernel) rfl rfl rfl rfl rfl ?_
        refine AB.gn 22 rfl (by decide +kernel) rfl rfl rfl rfl rfl ?_
        refine AB.gn 23 rfl (by decide +kernel) rfl rfl rfl rfl rfl ?_
        refine AB.u 24 rfl (by decide +kernel) (Dtu.pickT (lk rfl) (lk rfl)) rfl ?_
        refine AB.u 25 rfl (by decide +kernel) (Dtu.asg (lk rfl)) rfl ?_
        refine AB.done (by decide +kernel) ?_
        refine Then.next ?_
        refine Body.ret ?_
        exact ⟨.inr rfl, _, pk [0] rfl, bool_eq (by unfold dueF lateF; simp; omega), rfl⟩
      · refine AB.gu 11 rfl (by decide +kernel) rfl rfl rfl (Dtu.mv (lk rfl)) rfl ?_
        refine AB.gu 12 rfl (by decide +kernel) rfl rfl rfl (Dtu.nilck (lk rfl)) rfl ?_
        refine AB.gu 13 rfl (by decide +kernel) rfl rfl rfl (Dtu.fld fa102_4 (lk rfl)) rfl ?_
        refine AB.gd 14 rfl (by decide +kernel) rfl rfl rfl rfl (Det.ld Try.isAgg22 (lk rfl) (Rd.ow 0 rfl rfl)) rfl ?_
        refine AB.gu 15 rfl (by decide +kernel) rfl rfl rfl (Dtu.mv (lk rfl)) rfl ?_
        refine AB.gu 16 rfl (by decide +kernel) rfl rfl rfl (Dtu.nilck (lk rfl)) rfl ?_
        refine AB.gu 17 rfl (by decide +kernel) rfl rfl rfl (Dtu.fld fa102_2 (lk rfl)) rfl ?_
        refine AB.gu 18 rfl (by decide +kernel) rfl rfl rfl (Dtu.fld fa98_0 (lk rfl)) rfl ?_
        refine AB.gd 19 rfl (by decide +kernel) rfl rfl rfl rfl (Det.ld Try.isAgg22 (lk rfl) (Rd.ow 0 rfl rfl)) rfl ?_
        refine AB.gu 20 rfl (by decide +kernel) rfl rfl rfl (Dtu.gtr (lk rfl) (lk rfl)) rfl ?_
        refine AB.gu 21 rfl (by decide +kernel) rfl rfl rfl (Dtu.mv (lk rfl)) rfl ?_
        refine AB.decP 60 rfl (fun c60 => ?_) (fun c60 => ?_)
        · refine AB.gu 22 rfl (by decide +kernel) rfl rfl rfl (Dtu.mv (lk rfl)) rfl ?_
          refine AB.gu 23 rfl (by decide +kernel) rfl rfl rfl (Dtu.pickT (lk rfl) (lk rfl)) rfl ?_
          refine AB.u 24 rfl (by decide +kernel) (Dtu.pickF (lk rfl) (lk rfl)) rfl ?_
          refine AB.u 25 rfl (by decide +kernel) (Dtu.asg (lk rfl)) rfl ?_
          refine AB.done (by decide +kernel) ?_
          refine Then.next ?_
          refine Body.ret ?_
          exact ⟨.inr rfl, _, pk [0] rfl, bool_eq (by unfold dueF lateF; simp; omega), rfl⟩
        · refine AB.gn 22 rfl (by decide +kernel) rfl rfl rfl rfl rfl ?_
          refine AB.gu 23 rfl (by decide +kernel) rfl rfl rfl (Dtu.pickF (lk rfl) (lk rfl)) rfl ?_
          refine AB.u 24 rfl (by decide +kernel) (Dtu.pickF (lk rfl) (lk rfl)) rfl ?_
          refine AB.u 25 rfl (by decide +kernel) (Dtu.asg (lk rfl)) rfl ?_
          refine AB.done (by decide +kernel) ?_
          refine Then.next ?_
          refine Body.ret ?_
          exact ⟨.inr rfl, _, pk [0] rfl, bool_eq (by unfold dueF lateF; simp; omega), rfl⟩
  · refine Ops.gn rfl rfl rfl rfl rfl ?_
    refine Ops.gn rfl rfl rfl rfl rfl ?_
    refine Ops.gn rfl rfl rfl rfl rfl ?_
    refine Ops.gn rfl rfl rfl rfl rfl ?_
    refine Ops.gn rfl rfl rfl rfl rfl ?_
    refine Ops.gn rfl rfl rfl rfl rfl ?_
    refine Ops.gn rfl rfl rfl rfl rfl ?_
    refine Ops.gn rfl rfl rfl rfl rfl ?_
    refine Ops.u (Dtu.pickF (lk rfl) (lk rfl)) rfl ?_
    refine Ops.u (Dtu.mv (lk rfl)) rfl ?_
    refine Ops.gu rfl rfl rfl (Dtu.mv (lk rfl)) rfl ?_
    refine Ops.gu rfl rfl rfl (Dtu.mv (lk rfl)) rfl ?_
    refine Ops.gu rfl rfl rfl (Dtu.nilck (lk rfl)) rfl ?_
    refine Ops.gu rfl rfl rfl (Dtu.fld fa102_5 (lk rfl)) rfl ?_
    refine Ops.gd rfl rfl rfl (Det.ld Try.isAgg3 (lk rfl) (Rd.ow 0 rfl rfl)) rfl ?_
    refine Ops.gu rfl rfl rfl (Dtu.lss (lk rfl) (lk rfl)) rfl ?_
    refine Ops.gu rfl rfl rfl (Dtu.mv (lk rfl)) rfl ?_
    refine Ops.decP 34 rfl (fun _ => ?_) (fun hn => absurd (by first | omega | assumption | decide) hn)
    refine Ops.gu rfl rfl rfl (Dtu.mv (lk rfl)) rfl ?_
    refine Ops.gu rfl rfl rfl (Dtu.leq (lk rfl) (lk rfl)) rfl ?_
    refine Ops.gu rfl rfl rfl (Dtu.pickT (lk rfl) (lk rfl)) rfl ?_
    refine Ops.u (Dtu.pickF (lk rfl) (lk rfl)) rfl ?_
    refine Ops.u (Dtu.asg (lk rfl)) rfl ?_
    refine Ops.nil ?_
    refine Then.next ?_
    refine Body.seq ?_
    refine Body.draw mixed ?_
    refine AB.u 0 rfl (by decide +kernel) (Dtu.mv (lk rfl)) rfl ?_
    refine AB.u 1 rfl (by decide +kernel) (Dtu.nilck (lk rfl)) rfl ?_
    refine AB.u 2 rfl (by decide +kernel) (Dtu.fld fa102_1 (lk rfl)) rfl ?_
    refine AB.u 3 rfl (by decide +kernel) (Dtu.fld fa98_0 (lk rfl)) rfl ?_
    refine AB.d 4 rfl (by decide +kernel) rfl (Det.ld Try.isAgg22 (lk rfl) (Rd.ow 0 rfl rfl)) rfl ?_
    refine AB.u 5 rfl (by decide +kernel) (Dtu.mv (lk rfl)) rfl ?_
    refine AB.u 6 rfl (by decide +kernel) (Dtu.nilck (lk rfl)) rfl ?_
    refine AB.u 7 rfl (by decide +kernel) (Dtu.fld fa102_4 (lk rfl)) rfl ?_
    refine AB.d 8 rfl (by decide +kernel) rfl (Det.ld Try.isAgg22 (lk rfl) (Rd.ow 0 rfl rfl)) rfl ?_
    refine AB.u 9 rfl (by decide +kernel) (Dtu.neq (lk rfl) (lk rfl)) rfl ?_
    refine AB.u 10 rfl (by decide +kernel) (Dtu.mv (lk rfl)) rfl ?_
    refine AB.decP 49 rfl (fun c49 => ?_) (fun c49 => ?_)
    · refine AB.gn 11 rfl (by decide +kernel) rfl rfl rfl rfl rfl ?_
      refine AB.gn 12 rfl (by decide +kernel) rfl rfl rfl rfl rfl ?_
      refine AB.gn 13 rfl (by decide +kernel) rfl rfl rfl rfl rfl ?_
      refine AB.gn 14 rfl (by decide +kernel) rfl rfl rfl rfl rfl ?_
      refine AB.gn 15 rfl (by decide +kernel) rfl rfl rfl rfl rfl ?_
      refine AB.gn 16 rfl (by decide +kernel) rfl rfl rfl rfl rfl ?_
      refine AB.gn 17 rfl (by decide +kernel) rfl rfl rfl rfl rfl ?_
      refine AB.gn 18 rfl (by decide +kernel) rfl rfl rfl rfl rfl ?_
      refine AB.gn 19 rfl (by decide +kernel) rfl rfl rfl rfl rfl ?_
      refine AB.gn 20 rfl (by decide +kernel) rfl rfl rfl rfl rfl ?_
      refine AB.gn 21 rfl (by decide +kernel) rfl rfl rfl rfl rfl ?_
      refine AB.gn 22 rfl (by decide +kernel) rfl rfl rfl rfl rfl ?_
      refine AB.gn 23 rfl (by decide +kernel) rfl rfl rfl rfl rfl ?_
      refine AB.u 24 rfl (by decide +kernel) (Dtu.pickT (lk rfl) (lk rfl)) rfl ?_
      refine AB.u 25 rfl (by decide +kernel) (Dtu.asg (lk rfl)) rfl ?_
      refine AB.done (by decide +kernel) ?_
      refine Then.next ?_
      refine Body.ret ?_
      exact ⟨.inr rfl, _, pk [0] rfl, bool_eq (by unfold dueF lateF; simp; omega), rfl⟩
    · refine AB.gu 11 rfl (by decide +kernel) rfl rfl rfl (Dtu.mv (lk rfl)) rfl ?_
      refine AB.gu 12 rfl (by decide +kernel) rfl rfl rfl (Dtu.nilck (lk rfl)) rfl ?_
      refine AB.gu 13 rfl (by decide +kernel) rfl rfl rfl (Dtu.fld fa102_4 (lk rfl)) rfl ?_
      refine AB.gd 14 rfl (by decide +kernel) rfl rfl rfl rfl (Det.ld Try.isAgg22 (lk rfl) (Rd.ow 0 rfl rfl)) rfl ?_
      refine AB.gu 15 rfl (by decide +kernel) rfl rfl rfl (Dtu.mv (lk rfl)) rfl ?_
      refine AB.gu 16 rfl (by decide +kernel) rfl rfl rfl (Dtu.nilck (lk rfl)) rfl ?_
      refine AB.gu 17 rfl (by decide +kernel) rfl rfl rfl (Dtu.fld fa102_2 (lk rfl)) rfl ?_
      refine AB.gu 18 rfl (by decide +kernel) rfl rfl rfl (Dtu.fld fa98_0 (lk rfl)) rfl ?_
      refine AB.gd 19 rfl (by decide +kernel) rfl rfl rfl rfl (Det.ld Try.isAgg22 (lk rfl) (Rd.ow 0 rfl rfl)) rfl ?_
      refine AB.gu 20 rfl (by decide +kernel) rfl rfl rfl (Dtu.gtr (lk rfl) (lk rfl)) rfl ?_
      refine AB.gu 21 rfl (by decide +kernel) rfl rfl rfl (Dtu.mv (lk rfl)) rfl ?_
      refine AB.decP 60 rfl (fun c60 => ?_) (fun c60 => ?_)
      · refine AB.gu 22 rfl (by decide +kernel) rfl rfl rfl (Dtu.mv (lk rfl)) rfl ?_
        refine AB.gu 23 rfl (by decide +kernel) rfl rfl rfl (Dtu.pickT (lk rfl) (lk rfl)) rfl ?_
        refine AB.u 24 rfl (by decide +kernel) (Dtu.pickF (lk rfl) (lk rfl)) rfl ?_
        refine AB.u 25 rfl (by decide +kernel) (Dtu.asg (lk rfl)) rfl ?_
        refine AB.done (by decide +kernel) ?_
        refine Then.next ?_
        refine Body.ret ?_
        exact ⟨.inr rfl, _, pk [0] rfl, bool_eq (by unfold dueF lateF; simp; omega), rfl⟩
      · refine AB.gn 22 rfl (by decide +kernel) rfl rfl rfl rfl rfl ?_
        refine AB.gu 23 rfl (by decide +kernel) rfl rfl rfl (Dtu.pickF (lk rfl) (lk rfl)) rfl ?_
        refine AB.u 24 rfl (by decide +kernel) (Dtu.pickF (lk rfl) (lk rfl)) rfl ?_
        refine AB.u 25 rfl (by decide +kernel) (Dtu.asg (lk rfl)) rfl ?_
        refine AB.done (by decide +kernel) ?_
        refine Then.next ?_
        refine Body.ret ?_
        exact ⟨.inr rfl, _, pk [0] rfl, bool_eq (by unfold dueF lateF; simp; omega), rfl⟩
end Go.Proofs.Ytagcpamchgpgiaa
end
section
/- sync: Set. -/
namespace Go.Proofs.Ytagcpamchgpgiaa
set_option maxRecDepth 100000
set_option maxHeartbeats 4000000
set_option linter.unusedVariables false
set_option linter.unusedSimpArgs false
open Go.Sx

theorem set_form (E : Env) (o : Nat) (a b : Ver) (qa : Option Addr) (l : List Ver) (qc : Nat) (last whn : Int) (x : Stt) (sa : Option Addr) (sm sc : Nat) (ha : a.has E) (hS : x.v.has E [] (.slice sa sm sc)) (hx : x.ok = false) : Does Try.prog 24 #[.pointer (some ⟨o, 0, none⟩), .agg #[.int .i64 x.v.rows, .int .i64 x.v.cols, .slice sa sm sc, .int .i64 x.v.row, .int .i64 x.v.col, .bool x.v.vis, .string x.title, .string x.clip, .int .u64 x.clips, .int .u64 x.bells]] E ([own o [.bool true, .int .u64 (a.n : Nat), .int .i64 a.x.v.rows, .int .i64 a.x.v.cols, a.s, .int .i64 a.x.v.row, .int .i64 a.x.v.col, .bool a.x.v.vis, .string a.x.title, .string a.x.clip, .int .u64 a.x.clips, .int .u64 a.x.bells, .int .u64 (b.n : Nat), .int .i64 b.x.v.rows, .int .i64 b.x.v.cols, b.s, .int .i64 b.x.v.row, .int .i64 b.x.v.col, .bool b.x.v.vis, .string b.x.title, .string b.x.clip, .int .u64 b.x.clips, .int .u64 b.x.bells, .slice qa l.length qc, .int .u64 last, .int .i64 whn] 102]) fun r H' => r = .int .i64 3 ∧ H' = [own o [.bool true, .int .u64 (a.n : Nat), .int .i64 a.x.v.rows, .int .i64 a.x.v.cols, a.s, .int .i64 a.x.v.row, .int .i64 a.x.v.col, .bool a.x.v.vis, .string a.x.title, .string a.x.clip, .int .u64 a.x.clips, .int .u64 a.x.bells, .int .u64 (b.n : Nat), .int .i64 b.x.v.rows, .int .i64 b.x.v.cols, b.s, .int .i64 b.x.v.row, .int .i64 b.x.v.col, .bool b.x.v.vis, .string b.x.title, .string b.x.clip, .int .u64 b.x.clips, .int .u64 b.x.bells, .slice qa l.length qc, .int .u64 last, .int .i64 whn] 102] := by
  unfold Ver.has View.has at ha
  unfold View.has at hS
  refine Does.go _ _ Try.func24 rfl Try.ntmps24 rfl rfl ?_
  refine Body.seq ?_
  refine Body.region ?_
  refine Ops.s (Stp.box (lk rfl) rfl (fun b3 => ?_)) rfl
  refine Ops.u (Dtu.asg (lk rfl)) rfl ?_
  refine Ops.nil ?_
  refine Then.next ?_
  refine Body.seq ?_
  refine Body.block ?_
  refine Body.seq ?_
  refine Body.region ?_
  refine Ops.u (Dtu.mv (lk rfl)) rfl ?_
  refine Ops.s (Stp.callOwn [1] rfl rfl Try.call51 (lks rfl) (fun E' le hat => is_b E' _ _ _ _ _ _ _ _) ?_) rfl
  rintro _ _ ⟨rfl, rfl⟩
  refine Ops.u (Dtu.not (lk rfl)) rfl ?_
  refine Ops.u (Dtu.asg (lk rfl)) rfl ?_
  refine Ops.nil ?_
  refine Then.next ?_
  refine Body.condF (lk rfl) ?_
  refine Body.seq ?_
  refine Body.region ?_
  refine Ops.d (Det.lda Try.isAgg62 Try.sizeOf62 (lk rfl) (Rds.ow (m := 10) 1 rfl rfl) rfl) rfl ?_
  refine Ops.s (Stp.call rfl Try.call33 (lks rfl) (fun E' le hat => sright_ok E' x (.slice sa sm sc) (Sl.mono (by assumption) le)) ?_) rfl
  rintro _ _ ⟨rfl, rfl⟩
  refine Ops.u (Dtu.not (lk rfl)) rfl ?_
  refine Ops.u (Dtu.asg (lk rfl)) rfl ?_
  refine Ops.nil ?_
  refine Then.next ?_
  refine Body.cond (lk rfl) (fun _ => ?_) (fun hn => absurd hn (by first | (rw [hx]; decide) | simp [hx]))
  refine Body.seq ?_
  refine Body.region ?_
  refine Ops.u (Dtu.asg (lk rfl)) rfl ?_
  refine Ops.nil ?_
  refine Then.next ?_
  refine Body.ret ?_
  refine Blk.ret ?_
  refine Then.ret ?_
  exact ⟨.inr rfl, _, pk [0] rfl, rfl, rfl⟩
theorem set_same (E : Env) (o : Nat) (a b : Ver) (qa : Option Addr) (l : List Ver) (qc : Nat) (last whn : Int) (x : Stt) (sa : Option Addr) (sm sc : Nat) (ha : a.has E) (hS : x.v.has E [] (.slice sa sm sc)) (hx : x.ok = true) (hm : (a.n : Int) < 4611686018427387903) (hq : x.eqv a.x) : Does Try.prog 24 #[.pointer (some ⟨o, 0, none⟩), .agg #[.int .i64 x.v.rows, .int .i64 x.v.cols, .slice sa sm sc, .int .i64 x.v.row, .int .i64 x.v.col, .bool x.v.vis, .string x.title, .string x.clip, .int .u64 x.clips, .int .u64 x.bells]] E ([own o [.bool true, .int .u64 (a.n : Nat), .int .i64 a.x.v.rows, .int .i64 a.x.v.cols, a.s, .int .i64 a.x.v.row, .int .i64 a.x.v.col, .bool a.x.v.vis, .string a.x.title, .string a.x.clip, .int .u64 a.x.clips, .int .u64 a.x.bells, .int .u64 (b.n : Nat), .int .i64 b.x.v.rows, .int .i64 b.x.v.cols, b.s, .int .i64 b.x.v.row, .int .i64 b.x.v.col, .bool b.x.v.vis, .string b.x.title, .string b.x.clip, .int .u64 b.x.clips, .int .u64 b.x.bells, .slice qa l.length qc, .int .u64 last, .int .i64 whn] 102]) fun r H' => r = .int .i64 0 ∧ H' = [own o [.bool true, .int .u64 (a.n : Nat), .int .i64 a.x.v.rows, .int .i64 a.x.v.cols, a.s, .int .i64 a.x.v.row, .int .i64 a.x.v.col, .bool a.x.v.vis, .string a.x.title, .string a.x.clip, .int .u64 a.x.clips, .int .u64 a.x.bells, .int .u64 (b.n : Nat), .int .i64 b.x.v.rows, .int .i64 b.x.v.cols, b.s, .int .i64 b.x.v.row, .int .i64 b.x.v.col, .bool b.x.v.vis, .string b.x.title, .string b.x.clip, .int .u64 b.x.clips, .int .u64 b.x.bells, .slice qa l.length qc, .int .u64 last, .int .i64 whn] 102] := by
  unfold Ver.has View.has at ha
  unfold View.has at hS
  refine Does.go _ _ Try.func24 rfl Try.ntmps24 rfl rfl ?_
  refine Body.seq ?_
  refine Body.region ?_
  refine Ops.s (Stp.box (lk rfl) rfl (fun b3 => ?_)) rfl
  refine Ops.u (Dtu.asg (lk rfl)) rfl ?_
  refine Ops.nil ?_
  refine Then.next ?_
  refine Body.seq ?_
  refine Body.block ?_
  refine Body.seq ?_
  refine Body.region ?_
  refine Ops.u (Dtu.mv (lk rfl)) rfl ?_
  refine Ops.s (Stp.callOwn [1] rfl rfl Try.call51 (lks rfl) (fun E' le hat => is_b E' _ _ _ _ _ _ _ _) ?_) rfl
  rintro _ _ ⟨rfl, rfl⟩
  refine Ops.u (Dtu.not (lk rfl)) rfl ?_
  refine Ops.u (Dtu.asg (lk rfl)) rfl ?_
  refine Ops.nil ?_
  refine Then.next ?_
  refine Body.condF (lk rfl) ?_
  refine Body.seq ?_
  refine Body.region ?_
  refine Ops.d (Det.lda Try.isAgg62 Try.sizeOf62 (lk rfl) (Rds.ow (m := 10) 1 rfl rfl) rfl) rfl ?_
  refine Ops.s (Stp.call rfl Try.call33 (lks rfl) (fun E' le hat => sright_ok E' x (.slice sa sm sc) (Sl.mono (by assumption) le)) ?_) rfl
  rintro _ _ ⟨rfl, rfl⟩
  refine Ops.u (Dtu.not (lk rfl)) rfl ?_
  refine Ops.u (Dtu.asg (lk rfl)) rfl ?_
  refine Ops.nil ?_
  refine Then.next ?_
  refine Body.cond (lk rfl) (fun hn => absurd hn (by first | (rw [hx]; decide) | simp [hx])) (fun _ => ?_)
  refine Body.seq ?_
  refine Body.region ?_
  refine Ops.u (Dtu.mv (lk rfl)) rfl ?_
  refine Ops.u (Dtu.nilck (lk rfl)) rfl ?_
  refine Ops.u (Dtu.fld fa102_1 (lk rfl)) rfl ?_
  refine Ops.u (Dtu.fld fa98_0 (lk rfl)) rfl ?_
  refine Ops.d (Det.ld Try.isAgg22 (lk rfl) (Rd.ow 0 rfl rfl)) rfl ?_
  refine Ops.u (Dtu.eql (lk rfl) (lk rfl)) rfl ?_
  refine Ops.u (Dtu.asg (lk rfl)) rfl ?_
  refine Ops.nil ?_
  refine Then.next ?_
  refine Body.condP (lk rfl) (fun hy => absurd hy (by first | omega | assumption | decide)) (fun _ => ?_)
  refine Body.seq ?_
  refine Body.draw mixed ?_
  refine AB.d 0 rfl (by decide +kernel) rfl (Det.lda Try.isAgg62 Try.sizeOf62 (lk rfl) (Rds.ow (m := 10) 1 rfl rfl) rfl) rfl ?_
  refine AB.u 1 rfl (by decide +kernel) (Dtu.mv (lk rfl)) rfl ?_
  refine AB.u 2 rfl (by decide +kernel) (Dtu.nilck (lk rfl)) rfl ?_
  refine AB.u 3 rfl (by decide +kernel) (Dtu.fld fa102_1 (lk rfl)) rfl ?_
  refine AB.u 4 rfl (by decide +kernel) (Dtu.fld fa98_1 (lk rfl)) rfl ?_
  refine AB.d 5 rfl (by decide +kernel) rfl (Det.lda Try.isAgg62 Try.sizeOf62 (lk rfl) (Rds.ow (m := 10) 0 rfl rfl) rfl) rfl ?_
  refine AB.s 6 rfl (by decide +kernel) (by decide +kernel) (Stp.call rfl Try.call26 (lks rfl) (fun E' le hat => ssame_ok E' x a.x (.slice sa sm sc) a.s (Sl.mono (by assumption) le) (Sl.mono (by assumption) le)) ?_) rfl
  rintro _ _ ⟨rfl, rfl⟩
  refine AB.u 7 rfl (by decide +kernel) (Dtu.asg (lk rfl)) rfl ?_
  refine AB.done (by decide +kernel) ?_
  refine Then.next ?_
  refine Body.condP (lk rfl) (fun _ => ?_) (fun hn => absurd (by first | omega | assumption | decide) hn)
  refine Body.seq ?_
  refine Body.region ?_
  refine Ops.u (Dtu.asg (lk rfl)) rfl ?_
  refine Ops.nil ?_
  refine Then.next ?_
  refine Body.ret ?_
  refine Blk.ret ?_
  refine Then.ret ?_
  exact ⟨.inr rfl, _, pk [0] rfl, rfl, rfl⟩
theorem set_new (E : Env) (o : Nat) (a b : Ver) (qa : Option Addr) (l : List Ver) (qc : Nat) (last whn : Int) (x : Stt) (sa : Option Addr) (sm sc : Nat) (ha : a.has E) (hS : x.v.has E [] (.slice sa sm sc)) (hx : x.ok = true) (hc : x.v.cells.length ≤ 1000) (hm : (a.n : Int) < 4611686018427387903) (hq : ¬ x.eqv a.x) : Does Try.prog 24 #[.pointer (some ⟨o, 0, none⟩), .agg #[.int .i64 x.v.rows, .int .i64 x.v.cols, .slice sa sm sc, .int .i64 x.v.row, .int .i64 x.v.col, .bool x.v.vis, .string x.title, .string x.clip, .int .u64 x.clips, .int .u64 x.bells]] E ([own o [.bool true, .int .u64 (a.n : Nat), .int .i64 a.x.v.rows, .int .i64 a.x.v.cols, a.s, .int .i64 a.x.v.row, .int .i64 a.x.v.col, .bool a.x.v.vis, .string a.x.title, .string a.x.clip, .int .u64 a.x.clips, .int .u64 a.x.bells, .int .u64 (b.n : Nat), .int .i64 b.x.v.rows, .int .i64 b.x.v.cols, b.s, .int .i64 b.x.v.row, .int .i64 b.x.v.col, .bool b.x.v.vis, .string b.x.title, .string b.x.clip, .int .u64 b.x.clips, .int .u64 b.x.bells, .slice qa l.length qc, .int .u64 last, .int .i64 whn] 102]) fun r H' => ∃ m1 m2 m3, r = .int .i64 0 ∧ H' = [own o [.bool true, .int .u64 (a.n + 1 : Nat), .int .i64 x.v.rows, .int .i64 x.v.cols, .slice m1 m2 m3, .int .i64 x.v.row, .int .i64 x.v.col, .bool x.v.vis, .string x.title, .string x.clip, .int .u64 x.clips, .int .u64 x.bells, .int .u64 (b.n : Nat), .int .i64 b.x.v.rows, .int .i64 b.x.v.cols, b.s, .int .i64 b.x.v.row, .int .i64 b.x.v.col, .bool b.x.v.vis, .string b.x.title, .string b.x.clip, .int .u64 b.x.clips, .int .u64 b.x.bells, .slice qa l.length qc, .int .u64 last, .int .i64 whn] 102, osl 127 4 (.slice m1 m2 m3) x.v.cells.length (x.v.cells.flatMap Cell.enc)] := by
  unfold Ver.has View.has at ha
  unfold View.has at hS
  refine Does.go _ _ Try.func24 rfl Try.ntmps24 rfl rfl ?_
  refine Body.seq ?_
  refine Body.region ?_
  refine Ops.s (Stp.box (lk rfl) rfl (fun b3 => ?_)) rfl
  refine Ops.u (Dtu.asg (lk rfl)) rfl ?_
  refine Ops.nil ?_
  refine Then.next ?_
  refine Body.seq ?_
  refine Body.block ?_
  refine Body.seq ?_
  refine Body.region ?_
  refine Ops.u (Dtu.mv (lk rfl)) rfl ?_
  refine Ops.s (Stp.callOwn [1] rfl rfl Try.call51 (lks rfl) (fun E' le hat => is_b E' _ _ _ _ _ _ _ _) ?_) rfl
  rintro _ _ ⟨rfl, rfl⟩
  refine Ops.u (Dtu.not (lk rfl)) rfl ?_
  refine Ops.u (Dtu.asg (lk rfl)) rfl ?_
  refine Ops.nil ?_
  refine Then.next ?_
  refine Body.condF (lk rfl) ?_
  refine Body.seq ?_
  refine Body.region ?_
  refine Ops.d (Det.lda Try.isAgg62 Try.sizeOf62 (lk rfl) (Rds.ow (m := 10) 1 rfl rfl) rfl) rfl ?_
  refine Ops.s (Stp.call rfl Try.call33 (lks rfl) (fun E' le hat => sright_ok E' x (.slice sa sm sc) (Sl.mono (by assumption) le)) ?_) rfl
  rintro _ _ ⟨rfl, rfl⟩
  refine Ops.u (Dtu.not (lk rfl)) rfl ?_
  refine Ops.u (Dtu.asg (lk rfl)) rfl ?_
  refine Ops.nil ?_
  refine Then.next ?_
  refine Body.cond (lk rfl) (fun hn => absurd hn (by first | (rw [hx]; decide) | simp [hx])) (fun _ => ?_)
  refine Body.seq ?_
  refine Body.region ?_
  refine Ops.u (Dtu.mv (lk rfl)) rfl ?_
  refine Ops.u (Dtu.nilck (lk rfl)) rfl ?_
  refine Ops.u (Dtu.fld fa102_1 (lk rfl)) rfl ?_
  refine Ops.u (Dtu.fld fa98_0 (lk rfl)) rfl ?_
  refine Ops.d (Det.ld Try.isAgg22 (lk rfl) (Rd.ow 0 rfl rfl)) rfl ?_
  refine Ops.u (Dtu.eql (lk rfl) (lk rfl)) rfl ?_
  refine Ops.u (Dtu.asg (lk rfl)) rfl ?_
  refine Ops.nil ?_
  refine Then.next ?_
  refine Body.condP (lk rfl) (fun hy => absurd hy (by first | omega | assumption | decide)) (fun _ => ?_)
  refine Body.seq ?_
  refine Body.draw mixed ?_
  refine AB.d 0 rfl (by decide +kernel) rfl (Det.lda Try.isAgg62 Try.sizeOf62 (lk rfl) (Rds.ow (m := 10) 1 rfl rfl) rfl) rfl ?_
  refine AB.u 1 rfl (by decide +kernel) (Dtu.mv (lk rfl)) rfl ?_
  refine AB.u 2 rfl (by decide +kernel) (Dtu.nilck (lk rfl)) rfl ?_
  refine AB.u 3 rfl (by decide +kernel) (Dtu.fld fa102_1 (lk rfl)) rfl ?_
  refine AB.u 4 rfl (by decide +kernel) (Dtu.fld fa98_1 (lk rfl)) rfl ?_
  refine AB.d 5 rfl (by decide +kernel) rfl (Det.lda Try.isAgg62 Try.sizeOf62 (lk rfl) (Rds.ow (m := 10) 0 rfl rfl) rfl) rfl ?_
  refine AB.s 6 rfl (by decide +kernel) (by decide +kernel) (Stp.call rfl Try.call26 (lks rfl) (fun E' le hat => ssame_ok E' x a.x (.slice sa sm sc) a.s (Sl.mono (by assumption) le) (Sl.mono (by assumption) le)) ?_) rfl
  rintro _ _ ⟨rfl, rfl⟩
  refine AB.u 7 rfl (by decide +kernel) (Dtu.asg (lk rfl)) rfl ?_
  refine AB.done (by decide +kernel) ?_
  refine Then.next ?_
  refine Body.condP (lk rfl) (fun hy => absurd hy (by first | omega | assumption | decide)) (fun _ => ?_)
  refine Body.skip ?_
  refine Blk.norm ?_
  refine Then.next ?_
  refine Body.seq ?_
  refine Body.drawE [1] mixed rfl ?_
  rintro E9' le9 ⟨hA9_0, -⟩
  have ha_9 := Sl.mono ha le9
  have hS_9 := Sl.mono hS le9
  refine AE.u 0 rfl (by decide +kernel) (Dtu.mv (lk rfl)) rfl ?_
  refine AE.u 1 rfl (by decide +kernel) (Dtu.mv (lk rfl)) rfl ?_
  refine AE.u 2 rfl (by decide +kernel) (Dtu.nilck (lk rfl)) rfl ?_
  refine AE.u 3 rfl (by decide +kernel) (Dtu.fld fa102_1 (lk rfl)) rfl ?_
  refine AE.u 4 rfl (by decide +kernel) (Dtu.fld fa98_0 (lk rfl)) rfl ?_
  refine AE.d 7 rfl (by decide +kernel) (Det.lda Try.isAgg62 Try.sizeOf62 (lk rfl) (Rds.at (m := 10) hA9_0 rfl) rfl) rfl ?_
  refine AE.more [5, 8] (by decide +kernel) rfl ⟨?_, ?_, trivial⟩
  · refine AEI.d rfl (Det.ld Try.isAgg22 (lk rfl) (Rd.ow 0 rfl rfl)) rfl ?_
    refine AE.u 6 rfl (by decide +kernel) (Dtu.add (lk rfl) (lk rfl) (wu64 (by omega) (by omega))) rfl ?_
    refine AE.more [8] (by decide +kernel) rfl ⟨?_, trivial⟩
    refine AEI.s rfl (Stp.call rfl Try.call52 (lks rfl) (fun E' le hat => copied_ok E' x (.slice sa sm sc) (Sl.mono (by assumption) le) (by omega)) ?_) rfl
    rintro _ _ ⟨ma36, mb36, mc36, rfl, rfl⟩
    refine AE.u 9 rfl (by decide +kernel) (Dtu.build ty98 pl98 (lkp rfl) rfl rfl) rfl ?_
    refine AE.u 10 rfl (by decide +kernel) (Dtu.nilck (lk rfl)) rfl ?_
    refine AE.u 11 rfl (by decide +kernel) (Dtu.fld fa102_1 (lk rfl)) rfl ?_
    refine AE.more [12] (by decide +kernel) rfl ⟨?_, trivial⟩
    refine AEI.e rfl (Stp.store 1 Try.sizeOf98 (lk rfl) (lk rfl) rfl rfl rfl rfl rfl rfl rfl ?_)
    refine AE.done (by decide +kernel) ?_
    refine Then.next ?_
    refine Body.seq ?_
    refine Body.region ?_
    refine Ops.u (Dtu.asg (lk rfl)) rfl ?_
    refine Ops.nil ?_
    refine Then.next ?_
    refine Body.ret ?_
    exact ⟨.inr rfl, _, pk [1, 0] rfl, _, _, _, rfl, rfl⟩
  · refine AEI.s rfl (Stp.call rfl Try.call52 (lks rfl) (fun E' le hat => copied_ok E' x (.slice sa sm sc) (Sl.mono (by assumption) le) (by omega)) ?_) rfl
    rintro _ _ ⟨ma36, mb36, mc36, rfl, rfl⟩
    refine AE.more [5] (by decide +kernel) rfl ⟨?_, trivial⟩
    refine AEI.d rfl (Det.ld Try.isAgg22 (lk rfl) (Rd.ow 1 rfl rfl)) rfl ?_
    refine AE.u 6 rfl (by decide +kernel) (Dtu.add (lk rfl) (lk rfl) (wu64 (by omega) (by omega))) rfl ?_
    refine AE.u 9 rfl (by decide +kernel) (Dtu.build ty98 pl98 (lkp rfl) rfl rfl) rfl ?_
    refine AE.u 10 rfl (by decide +kernel) (Dtu.nilck (lk rfl)) rfl ?_
    refine AE.u 11 rfl (by decide +kernel) (Dtu.fld fa102_1 (lk rfl)) rfl ?_
    refine AE.more [12] (by decide +kernel) rfl ⟨?_, trivial⟩
    refine AEI.e rfl (Stp.store 1 Try.sizeOf98 (lk rfl) (lk rfl) rfl rfl rfl rfl rfl rfl rfl ?_)
    refine AE.done (by decide +kernel) ?_
    refine Then.next ?_
    refine Body.seq ?_
    refine Body.region ?_
    refine Ops.u (Dtu.asg (lk rfl)) rfl ?_
    refine Ops.nil ?_
    refine Then.next ?_
    refine Body.ret ?_
    exact ⟨.inr rfl, _, pk [1, 0] rfl, _, _, _, rfl, rfl⟩
end Go.Proofs.Ytagcpamchgpgiaa
end
section
/- sync: Make. -/
namespace Go.Proofs.Ytagcpamchgpgiaa
set_option maxRecDepth 100000
set_option maxHeartbeats 4000000
set_option linter.unusedVariables false
set_option linter.unusedSimpArgs false
open Go.Sx

theorem make_old (E : Env) (o : Nat) (a b : Ver) (qa : Option Addr) (l : List Ver) (qc : Nat) (last whn : Int) (now : Int) (ha : a.has E) (hbb : b.has E) (hl : Sl E [] 11 (.slice qa l.length qc) l.length (l.flatMap Ver.enc)) (hka : a.x.ok = true) (hkb : b.x.ok = true) (hcb : 0 ≤ a.x.clips) (hbb2 : 0 ≤ a.x.bells) (hlen : l.length ≤ 32) (hw : 0 ≤ firstAt (fun v => decide ((v.n : Int) = (a.n : Nat))) l ∨ ¬ (b.n : Int) < a.n) : Does Try.prog 27 #[.pointer (some ⟨o, 0, none⟩), .int .i64 now] E ([own o [.bool true, .int .u64 (a.n : Nat), .int .i64 a.x.v.rows, .int .i64 a.x.v.cols, a.s, .int .i64 a.x.v.row, .int .i64 a.x.v.col, .bool a.x.v.vis, .string a.x.title, .string a.x.clip, .int .u64 a.x.clips, .int .u64 a.x.bells, .int .u64 (b.n : Nat), .int .i64 b.x.v.rows, .int .i64 b.x.v.cols, b.s, .int .i64 b.x.v.row, .int .i64 b.x.v.col, .bool b.x.v.vis, .string b.x.title, .string b.x.clip, .int .u64 b.x.clips, .int .u64 b.x.bells, .slice qa l.length qc, .int .u64 last, .int .i64 whn] 102]) fun r H' => ∃ d1 d2 d3, r = .tuple #[.agg #[.int .u64 (b.n : Nat), .int .u64 (a.n : Nat), .slice d1 d2 d3], .int .i64 0] ∧ H' = [own o [.bool true, .int .u64 (a.n : Nat), .int .i64 a.x.v.rows, .int .i64 a.x.v.cols, a.s, .int .i64 a.x.v.row, .int .i64 a.x.v.col, .bool a.x.v.vis, .string a.x.title, .string a.x.clip, .int .u64 a.x.clips, .int .u64 a.x.bells, .int .u64 (b.n : Nat), .int .i64 b.x.v.rows, .int .i64 b.x.v.cols, b.s, .int .i64 b.x.v.row, .int .i64 b.x.v.col, .bool b.x.v.vis, .string b.x.title, .string b.x.clip, .int .u64 b.x.clips, .int .u64 b.x.bells, .slice qa l.length qc, .int .u64 (a.n : Nat), .int .i64 now] 102, osl 5 1 (.slice d1 d2 d3) (sdifB b.x a.x).length ((sdifB b.x a.x).map (.int .u8))] := by
  unfold Ver.has View.has at ha
  unfold Ver.has View.has at hbb
  refine Does.go _ _ Try.func27 rfl Try.ntmps27 rfl rfl ?_
  refine Body.seq ?_
  refine Body.region ?_
  refine Ops.s (Stp.box (lk rfl) rfl (fun b2 => ?_)) rfl
  refine Ops.s (Stp.alloc ty73 (fun b4 => ?_)) rfl
  refine Ops.u (Dtu.asg (lk rfl)) rfl ?_
  refine Ops.nil ?_
  refine Then.next ?_
  refine Body.seq ?_
  refine Body.seq ?_
  refine Body.region ?_
  refine Ops.d (Det.ld Try.isAgg54 (lk rfl) (Rd.ow 1 rfl rfl)) rfl ?_
  refine Ops.s (Stp.callOwn [2] rfl rfl Try.call51 (lks rfl) (fun E' le hat => is_b E' _ _ _ _ _ _ _ _) ?_) rfl
  rintro _ _ ⟨rfl, rfl⟩
  refine Ops.u (Dtu.not (lk rfl)) rfl ?_
  refine Ops.nil ?_
  refine Then.next ?_
  refine Body.condF (lk rfl) ?_
  refine Body.skip ?_
  refine Then.next ?_
  refine Body.seq ?_
  refine Body.draw mixed ?_
  refine AB.d 0 rfl (by decide +kernel) rfl (Det.ld Try.isAgg54 (lk rfl) (Rd.ow 2 rfl rfl)) rfl ?_
  refine AB.u 1 rfl (by decide +kernel) (Dtu.nilck (lk rfl)) rfl ?_
  refine AB.u 2 rfl (by decide +kernel) (Dtu.fld fa102_2 (lk rfl)) rfl ?_
  refine AB.u 3 rfl (by decide +kernel) (Dtu.fld fa98_1 (lk rfl)) rfl ?_
  refine AB.d 4 rfl (by decide +kernel) rfl (Det.lda Try.isAgg62 Try.sizeOf62 (lk rfl) (Rds.ow (m := 10) 0 rfl rfl) rfl) rfl ?_
  refine AB.d 5 rfl (by decide +kernel) rfl (Det.ld Try.isAgg54 (lk rfl) (Rd.ow 2 rfl rfl)) rfl ?_
  refine AB.u 6 rfl (by decide +kernel) (Dtu.nilck (lk rfl)) rfl ?_
  refine AB.u 7 rfl (by decide +kernel) (Dtu.fld fa102_1 (lk rfl)) rfl ?_
  refine AB.u 8 rfl (by decide +kernel) (Dtu.fld fa98_1 (lk rfl)) rfl ?_
  refine AB.d 9 rfl (by decide +kernel) rfl (Det.lda Try.isAgg62 Try.sizeOf62 (lk rfl) (Rds.ow (m := 10) 0 rfl rfl) rfl) rfl ?_
  refine AB.s 10 rfl (by decide +kernel) (by decide +kernel) (Stp.call rfl Try.call55 (lks rfl) (fun E' le hat => sdiff_ok E' b.x a.x b.s a.s (Sl.mono (by assumption) le) (Sl.mono (by assumption) le) hkb hka hcb hbb2) ?_) rfl
  rintro _ _ ⟨ds25, rfl, rfl⟩
  refine AB.u 11 rfl (by decide +kernel) (Dtu.mv (lk rfl)) rfl ?_
  refine AB.u 12 rfl (by decide +kernel) (Dtu.ext (lk rfl) rfl) rfl ?_
  refine AB.u 13 rfl (by decide +kernel) (Dtu.ext (lk rfl) rfl) rfl ?_
  refine AB.u 14 rfl (by decide +kernel) (Dtu.asg (lk rfl)) rfl ?_
  refine AB.u 15 rfl (by decide +kernel) (Dtu.asg (lk rfl)) rfl ?_
  refine AB.done (by decide +kernel) ?_
  refine Then.next ?_
  refine Body.seq ?_
  refine Body.seq ?_
  refine Body.region ?_
  refine Ops.u (Dtu.mv (lk rfl)) rfl ?_
  refine Ops.u (Dtu.neq (lk rfl) (lk rfl)) rfl ?_
  refine Ops.nil ?_
  refine Then.next ?_
  refine Body.condP (lk rfl) (fun hy => absurd hy (by first | omega | assumption | decide)) (fun _ => ?_)
  refine Body.skip ?_
  refine Then.next ?_
  refine Body.seq ?_
  refine Body.region ?_
  refine Ops.d (Det.ld Try.isAgg54 (lk rfl) (Rd.ow 3 rfl rfl)) rfl ?_
  refine Ops.u (Dtu.nilck (lk rfl)) rfl ?_
  refine Ops.u (Dtu.fld fa102_3 (lk rfl)) rfl ?_
  refine Ops.d (Det.ld Try.isAgg100 (lk rfl) (Rd.ow 1 rfl rfl)) rfl ?_
  refine Ops.u (Dtu.mkfC (lks rfl)) rfl ?_
  refine Ops.s (Stp.callOwn [3] rfl rfl Try.call56 (lks rfl) (fun E' le hat => containsM_ok E' (.slice qa l.length qc) l (a.n : Nat) _ o _ (by first | exact hat _ (.head _) | exact hat _ (.tail _ (.head _)) | exact hat _ (.tail _ (.tail _ (.head _)))) (Sl.mono (by assumption) le)) ?_) rfl
  rintro _ _ ⟨rfl, rfl⟩
  refine Ops.u (Dtu.asg (lk rfl)) rfl ?_
  refine Ops.nil ?_
  refine Then.next ?_
  refine Body.seq ?_
  refine Body.seq ?_
  refine Body.draw mixed ?_
  refine AB.u 0 rfl (by decide +kernel) (Dtu.mv (lk rfl)) rfl ?_
  refine AB.u 1 rfl (by decide +kernel) (Dtu.notP (lk rfl)) rfl ?_
  refine AB.u 2 rfl (by decide +kernel) (Dtu.mv (lk rfl)) rfl ?_
  refine AB.decP 40 rfl (fun c40 => ?_) (fun c40 => ?_)
  · refine AB.gd 3 rfl (by decide +kernel) rfl rfl rfl rfl (Det.ld Try.isAgg54 (lk rfl) (Rd.ow 0 rfl rfl)) rfl ?_
    refine AB.gu 4 rfl (by decide +kernel) rfl rfl rfl (Dtu.nilck (lk rfl)) rfl ?_
    refine AB.gu 5 rfl (by decide +kernel) rfl rfl rfl (Dtu.fld fa102_1 (lk rfl)) rfl ?_
    refine AB.gu 6 rfl (by decide +kernel) rfl rfl rfl (Dtu.fld fa98_0 (lk rfl)) rfl ?_
    refine AB.gd 7 rfl (by decide +kernel) rfl rfl rfl rfl (Det.ld Try.isAgg22 (lk rfl) (Rd.ow 2 rfl rfl)) rfl ?_
    refine AB.gd 8 rfl (by decide +kernel) rfl rfl rfl rfl (Det.ld Try.isAgg54 (lk rfl) (Rd.ow 0 rfl rfl)) rfl ?_
    refine AB.gu 9 rfl (by decide +kernel) rfl rfl rfl (Dtu.nilck (lk rfl)) rfl ?_
    refine AB.gu 10 rfl (by decide +kernel) rfl rfl rfl (Dtu.fld fa102_2 (lk rfl)) rfl ?_
    refine AB.gu 11 rfl (by decide +kernel) rfl rfl rfl (Dtu.fld fa98_0 (lk rfl)) rfl ?_
    refine AB.gd 12 rfl (by decide +kernel) rfl rfl rfl rfl (Det.ld Try.isAgg22 (lk rfl) (Rd.ow 2 rfl rfl)) rfl ?_
    refine AB.gu 13 rfl (by decide +kernel) rfl rfl rfl (Dtu.gtr (lk rfl) (lk rfl)) rfl ?_
    refine AB.u 14 rfl (by decide +kernel) (Dtu.pickT (lk rfl) (lk rfl)) rfl ?_
    refine AB.done (by decide +kernel) ?_
    refine Then.next ?_
    refine Body.condP (lk rfl) (fun hy => absurd hy (by first | omega | assumption | decide)) (fun _ => ?_)
    refine Body.skip ?_
    refine Then.next ?_
    refine Body.seq ?_
    refine Body.drawE [0] mixed rfl ?_
    rintro E10' le10 ⟨hA10_0, -⟩
    have ha_10 := Sl.mono ha le10
    have hbb_10 := Sl.mono hbb le10
    have hl_10 := Sl.mono hl le10
    refine AE.d 0 rfl (by decide +kernel) (Det.ld Try.isAgg54 (lk rfl) (Rd.env (own_at hA10_0 rfl))) rfl ?_
    refine AE.d 1 rfl (by decide +kernel) (Det.ld Try.isAgg54 (lk rfl) (Rd.env (own_at hA10_0 rfl))) rfl ?_
    refine AE.d 2 rfl (by decide +kernel) (Det.ld Try.isAgg54 (lk rfl) (Rd.env (own_at hA10_0 rfl))) rfl ?_
    refine AE.u 3 rfl (by decide +kernel) (Dtu.nilck (lk rfl)) rfl ?_
    refine AE.u 4 rfl (by decide +kernel) (Dtu.fld fa102_1 (lk rfl)) rfl ?_
    refine AE.u 5 rfl (by decide +kernel) (Dtu.fld fa98_0 (lk rfl)) rfl ?_
    refine AE.u 7 rfl (by decide +kernel) (Dtu.mv (lk rfl)) rfl ?_
    refine AE.more [6] (by decide +kernel) rfl ⟨?_, trivial⟩
    refine AEI.d rfl (Det.ld Try.isAgg22 (lk rfl) (Rd.ow 1 rfl rfl)) rfl ?_
    refine AE.u 8 rfl (by decide +kernel) (Dtu.nilck (lk rfl)) rfl ?_
    refine AE.u 9 rfl (by decide +kernel) (Dtu.fld fa102_4 (lk rfl)) rfl ?_
    refine AE.more [10] (by decide +kernel) rfl ⟨?_, trivial⟩
    refine AEI.e rfl (Stp.store 1 Try.sizeOf22 (lk rfl) (lk rfl) rfl rfl rfl rfl rfl rfl rfl ?_)
    refine AE.u 11 rfl (by decide +kernel) (Dtu.nilck (lk rfl)) rfl ?_
    refine AE.u 12 rfl (by decide +kernel) (Dtu.fld fa102_5 (lk rfl)) rfl ?_
    refine AE.more [13] (by decide +kernel) rfl ⟨?_, trivial⟩
    refine AEI.e rfl (Stp.store 1 Try.sizeOf3 (lk rfl) (lk rfl) rfl rfl rfl rfl rfl rfl rfl ?_)
    refine AE.done (by decide +kernel) ?_
    refine Then.next ?_
    refine Body.seq ?_
    refine Body.draw mixed ?_
    refine AB.d 0 rfl (by decide +kernel) rfl (Det.ld Try.isAgg54 (lk rfl) (Rd.ow 3 rfl rfl)) rfl ?_
    refine AB.u 1 rfl (by decide +kernel) (Dtu.nilck (lk rfl)) rfl ?_
    refine AB.u 2 rfl (by decide +kernel) (Dtu.fld fa102_2 (lk rfl)) rfl ?_
    refine AB.u 3 rfl (by decide +kernel) (Dtu.fld fa98_0 (lk rfl)) rfl ?_
    refine AB.d 4 rfl (by decide +kernel) rfl (Det.ld Try.isAgg22 (lk rfl) (Rd.ow 1 rfl rfl)) rfl ?_
    refine AB.d 5 rfl (by decide +kernel) rfl (Det.ld Try.isAgg54 (lk rfl) (Rd.ow 3 rfl rfl)) rfl ?_
    refine AB.u 6 rfl (by decide +kernel) (Dtu.nilck (lk rfl)) rfl ?_
    refine AB.u 7 rfl (by decide +kernel) (Dtu.fld fa102_1 (lk rfl)) rfl ?_
    refine AB.u 8 rfl (by decide +kernel) (Dtu.fld fa98_0 (lk rfl)) rfl ?_
    refine AB.d 9 rfl (by decide +kernel) rfl (Det.ld Try.isAgg22 (lk rfl) (Rd.ow 1 rfl rfl)) rfl ?_
    refine AB.u 10 rfl (by decide +kernel) (Dtu.mv (lk rfl)) rfl ?_
    refine AB.pure (Sl.shape (Sl.osl 0 rfl)) fun hslds25 => ?_
    obtain ⟨ds25a, ds25c, rfl⟩ := hslds25
    refine AB.u 11 rfl (by decide +kernel) (Dtu.build ty73 pl73 (lkp rfl) rfl rfl) rfl ?_
    refine AB.e 12 rfl (by decide +kernel) (by decide +kernel) (Stp.store 2 Try.sizeOf73 (lk rfl) (lk rfl) rfl rfl rfl rfl rfl rfl rfl ?_)
    refine AB.u 13 rfl (by decide +kernel) (Dtu.asg (lk rfl)) rfl ?_
    refine AB.done (by decide +kernel) ?_
    refine Then.next ?_
    refine Body.ret ?_
    exact ⟨.inr rfl, _, Loads.agg Try.isAgg73 Try.sizeOf73 (Rds.ow (m := 3) 2 rfl rfl) rfl, _, pk [1, 0] rfl, _, _, _, rfl, rfl⟩
  · refine AB.gn 3 rfl (by decide +kernel) rfl rfl rfl rfl rfl ?_
    refine AB.gn 4 rfl (by decide +kernel) rfl rfl rfl rfl rfl ?_
    refine AB.gn 5 rfl (by decide +kernel) rfl rfl rfl rfl rfl ?_
    refine AB.gn 6 rfl (by decide +kernel) rfl rfl rfl rfl rfl ?_
    refine AB.gn 7 rfl (by decide +kernel) rfl rfl rfl rfl rfl ?_
    refine AB.gn 8 rfl (by decide +kernel) rfl rfl rfl rfl rfl ?_
    refine AB.gn 9 rfl (by decide +kernel) rfl rfl rfl rfl rfl ?_
    refine AB.gn 10 rfl (by decide +kernel) rfl rfl rfl rfl rfl ?_
    refine AB.gn 11 rfl (by decide +kernel) rfl rfl rfl rfl rfl ?_
    refine AB.gn 12 rfl (by decide +kernel) rfl rfl rfl rfl rfl ?_
    refine AB.gn 13 rfl (by decide +kernel) rfl rfl rfl rfl rfl ?_
    refine AB.u 14 rfl (by decide +kernel) (Dtu.pickF (lk rfl) (lk rfl)) rfl ?_
    refine AB.done (by decide +kernel) ?_
    refine Then.next ?_
    refine Body.condF (lk rfl) ?_
    refine Body.skip ?_
    refine Then.next ?_
    refine Body.seq ?_
    refine Body.drawE [0] mixed rfl ?_
    rintro E10' le10 ⟨hA10_0, -⟩
    have ha_10 := Sl.mono ha le10
    have hbb_10 := Sl.mono hbb le10
    have hl_10 := Sl.mono hl le10
    refine AE.d 0 rfl (by decide +kernel) (Det.ld Try.isAgg54 (lk rfl) (Rd.env (own_at hA10_0 rfl))) rfl ?_
    refine AE.d 1 rfl (by decide +kernel) (Det.ld Try.isAgg54 (lk rfl) (Rd.env (own_at hA10_0 rfl))) rfl ?_
    refine AE.d 2 rfl (by decide +kernel) (Det.ld Try.isAgg54 (lk rfl) (Rd.env (own_at hA10_0 rfl))) rfl ?_
    refine AE.u 3 rfl (by decide +kernel) (Dtu.nilck (lk rfl)) rfl ?_
    refine AE.u 4 rfl (by decide +kernel) (Dtu.fld fa102_1 (lk rfl)) rfl ?_
    refine AE.u 5 rfl (by decide +kernel) (Dtu.fld fa98_0 (lk rfl)) rfl ?_
    refine AE.u 7 rfl (by decide +kernel) (Dtu.mv (lk rfl)) rfl ?_
    refine AE.more [6] (by decide +kernel) rfl ⟨?_, trivial⟩
    refine AEI.d rfl (Det.ld Try.isAgg22 (lk rfl) (Rd.ow 1 rfl rfl)) rfl ?_
    refine AE.u 8 rfl (by decide +kernel) (Dtu.nilck (lk rfl)) rfl ?_
    refine AE.u 9 rfl (by decide +kernel) (Dtu.fld fa102_4 (lk rfl)) rfl ?_
    refine AE.more [10] (by decide +kernel) rfl ⟨?_, trivial⟩
    refine AEI.e rfl (Stp.store 1 Try.sizeOf22 (lk rfl) (lk rfl) rfl rfl rfl rfl rfl rfl rfl ?_)
    refine AE.u 11 rfl (by decide +kernel) (Dtu.nilck (lk rfl)) rfl ?_
    refine AE.u 12 rfl (by decide +kernel) (Dtu.fld fa102_5 (lk rfl)) rfl ?_
    refine AE.more [13] (by decide +kernel) rfl ⟨?_, trivial⟩
    refine AEI.e rfl (Stp.store 1 Try.sizeOf3 (lk rfl) (lk rfl) rfl rfl rfl rfl rfl rfl rfl ?_)
    refine AE.done (by decide +kernel) ?_
    refine Then.next ?_
    refine Body.seq ?_
    refine Body.draw mixed ?_
    refine AB.d 0 rfl (by decide +kernel) rfl (Det.ld Try.isAgg54 (lk rfl) (Rd.ow 3 rfl rfl)) rfl ?_
    refine AB.u 1 rfl (by decide +kernel) (Dtu.nilck (lk rfl)) rfl ?_
    refine AB.u 2 rfl (by decide +kernel) (Dtu.fld fa102_2 (lk rfl)) rfl ?_
    refine AB.u 3 rfl (by decide +kernel) (Dtu.fld fa98_0 (lk rfl)) rfl ?_
    refine AB.d 4 rfl (by decide +kernel) rfl (Det.ld Try.isAgg22 (lk rfl) (Rd.ow 1 rfl rfl)) rfl ?_
    refine AB.d 5 rfl (by decide +kernel) rfl (Det.ld Try.isAgg54 (lk rfl) (Rd.ow 3 rfl rfl)) rfl ?_
    refine AB.u 6 rfl (by decide +kernel) (Dtu.nilck (lk rfl)) rfl ?_
    refine AB.u 7 rfl (by decide +kernel) (Dtu.fld fa102_1 (lk rfl)) rfl ?_
    refine AB.u 8 rfl (by decide +kernel) (Dtu.fld fa98_0 (lk rfl)) rfl ?_
    refine AB.d 9 rfl (by decide +kernel) rfl (Det.ld Try.isAgg22 (lk rfl) (Rd.ow 1 rfl rfl)) rfl ?_
    refine AB.u 10 rfl (by decide +kernel) (Dtu.mv (lk rfl)) rfl ?_
    refine AB.pure (Sl.shape (Sl.osl 0 rfl)) fun hslds25 => ?_
    obtain ⟨ds25a, ds25c, rfl⟩ := hslds25
    refine AB.u 11 rfl (by decide +kernel) (Dtu.build ty73 pl73 (lkp rfl) rfl rfl) rfl ?_
    refine AB.e 12 rfl (by decide +kernel) (by decide +kernel) (Stp.store 2 Try.sizeOf73 (lk rfl) (lk rfl) rfl rfl rfl rfl rfl rfl rfl ?_)
    refine AB.u 13 rfl (by decide +kernel) (Dtu.asg (lk rfl)) rfl ?_
    refine AB.done (by decide +kernel) ?_
    refine Then.next ?_
    refine Body.ret ?_
    exact ⟨.inr rfl, _, Loads.agg Try.isAgg73 Try.sizeOf73 (Rds.ow (m := 3) 2 rfl rfl) rfl, _, pk [1, 0] rfl, _, _, _, rfl, rfl⟩
theorem make_new (E : Env) (o : Nat) (a b : Ver) (qa : Option Addr) (l : List Ver) (qc : Nat) (last whn : Int) (now : Int) (ha : a.has E) (hbb : b.has E) (hl : Sl E [] 11 (.slice qa l.length qc) l.length (l.flatMap Ver.enc)) (hka : a.x.ok = true) (hkb : b.x.ok = true) (hcb : 0 ≤ a.x.clips) (hbb2 : 0 ≤ a.x.bells) (hlen : l.length ≤ 32) (hw : ¬ 0 ≤ firstAt (fun v => decide ((v.n : Int) = (a.n : Nat))) l) (hw2 : (b.n : Int) < a.n) : Does Try.prog 27 #[.pointer (some ⟨o, 0, none⟩), .int .i64 now] E ([own o [.bool true, .int .u64 (a.n : Nat), .int .i64 a.x.v.rows, .int .i64 a.x.v.cols, a.s, .int .i64 a.x.v.row, .int .i64 a.x.v.col, .bool a.x.v.vis, .string a.x.title, .string a.x.clip, .int .u64 a.x.clips, .int .u64 a.x.bells, .int .u64 (b.n : Nat), .int .i64 b.x.v.rows, .int .i64 b.x.v.cols, b.s, .int .i64 b.x.v.row, .int .i64 b.x.v.col, .bool b.x.v.vis, .string b.x.title, .string b.x.clip, .int .u64 b.x.clips, .int .u64 b.x.bells, .slice qa l.length qc, .int .u64 last, .int .i64 whn] 102]) fun r H' => ∃ d1 d2 d3 q1 q2, r = .tuple #[.agg #[.int .u64 (b.n : Nat), .int .u64 (a.n : Nat), .slice d1 d2 d3], .int .i64 0] ∧ H' = [own o [.bool true, .int .u64 (a.n : Nat), .int .i64 a.x.v.rows, .int .i64 a.x.v.cols, a.s, .int .i64 a.x.v.row, .int .i64 a.x.v.col, .bool a.x.v.vis, .string a.x.title, .string a.x.clip, .int .u64 a.x.clips, .int .u64 a.x.bells, .int .u64 (b.n : Nat), .int .i64 b.x.v.rows, .int .i64 b.x.v.cols, b.s, .int .i64 b.x.v.row, .int .i64 b.x.v.col, .bool b.x.v.vis, .string b.x.title, .string b.x.clip, .int .u64 b.x.clips, .int .u64 b.x.bells, .slice q1 (min l.length 31 - 0 + 1) q2, .int .u64 (a.n : Nat), .int .i64 now] 102, osl 98 11 (.slice q1 (min l.length 31 - 0 + 1) q2) (min l.length 31 - 0 + 1) ((l.take 31).flatMap Ver.enc ++ a.enc), osl 5 1 (.slice d1 d2 d3) (sdifB b.x a.x).length ((sdifB b.x a.x).map (.int .u8))] := by
  unfold Ver.has View.has at ha
  unfold Ver.has View.has at hbb
  have hmn : min ((l.length : Nat) : Int) 31 = ((min l.length 31 : Nat) : Int) := by omega
  have hk1 : min l.length 31 ≤ l.length := Nat.min_le_left ..
  have hk2 : min l.length 31 ≤ 31 := Nat.min_le_right ..
  have htk : l.take 31 = l.take (min l.length 31) := by rw [List.take_eq_take_iff]; omega
  rw [htk]
  refine Does.pure (Sl.capLe (Sl.up hl)) fun hcap => ?_
  have hsub := Sl.takeF (enc := Ver.enc) (sz := 11) (k := min l.length 31) (fun _ => rfl) hl hk1 hcap
  refine Does.go _ _ Try.func27 rfl Try.ntmps27 rfl rfl ?_
  refine Body.seq ?_
  refine Body.region ?_
  refine Ops.s (Stp.box (lk rfl) rfl (fun b2 => ?_)) rfl
  refine Ops.s (Stp.alloc ty73 (fun b4 => ?_)) rfl
  refine Ops.u (Dtu.asg (lk rfl)) rfl ?_
  refine Ops.nil ?_
  refine Then.next ?_
  refine Body.seq ?_
  refine Body.seq ?_
  refine Body.region ?_
  refine Ops.d (Det.ld Try.isAgg54 (lk rfl) (Rd.ow 1 rfl rfl)) rfl ?_
  refine Ops.s (Stp.callOwn [2] rfl rfl Try.call51 (lks rfl) (fun E' le hat => is_b E' _ _ _ _ _ _ _ _) ?_) rfl
  rintro _ _ ⟨rfl, rfl⟩
  refine Ops.u (Dtu.not (lk rfl)) rfl ?_
  refine Ops.nil ?_
  refine Then.next ?_
  refine Body.condF (lk rfl) ?_
  refine Body.skip ?_
  refine Then.next ?_
  refine Body.seq ?_
  refine Body.draw mixed ?_
  refine AB.d 0 rfl (by decide +kernel) rfl (Det.ld Try.isAgg54 (lk rfl) (Rd.ow 2 rfl rfl)) rfl ?_
  refine AB.u 1 rfl (by decide +kernel) (Dtu.nilck (lk rfl)) rfl ?_
  refine AB.u 2 rfl (by decide +kernel) (Dtu.fld fa102_2 (lk rfl)) rfl ?_
  refine AB.u 3 rfl (by decide +kernel) (Dtu.fld fa98_1 (lk rfl)) rfl ?_
  refine AB.d 4 rfl (by decide +kernel) rfl (Det.lda Try.isAgg62 Try.sizeOf62 (lk rfl) (Rds.ow (m := 10) 0 rfl rfl) rfl) rfl ?_
  refine AB.d 5 rfl (by decide +kernel) rfl (Det.ld Try.isAgg54 (lk rfl) (Rd.ow 2 rfl rfl)) rfl ?_
  refine AB.u 6 rfl (by decide +kernel) (Dtu.nilck (lk rfl)) rfl ?_
  refine AB.u 7 rfl (by decide +kernel) (Dtu.fld fa102_1 (lk rfl)) rfl ?_
  refine AB.u 8 rfl (by decide +kernel) (Dtu.fld fa98_1 (lk rfl)) rfl ?_
  refine AB.d 9 rfl (by decide +kernel) rfl (Det.lda Try.isAgg62 Try.sizeOf62 (lk rfl) (Rds.ow (m := 10) 0 rfl rfl) rfl) rfl ?_
  refine AB.s 10 rfl (by decide +kernel) (by decide +kernel) (Stp.call rfl Try.call55 (lks rfl) (fun E' le hat => sdiff_ok E' b.x a.x b.s a.s (Sl.mono (by assumption) le) (Sl.mono (by assumption) le) hkb hka hcb hbb2) ?_) rfl
  rintro _ _ ⟨ds25, rfl, rfl⟩
  refine AB.u 11 rfl (by decide +kernel) (Dtu.mv (lk rfl)) rfl ?_
  refine AB.u 12 rfl (by decide +kernel) (Dtu.ext (lk rfl) rfl) rfl ?_
  refine AB.u 13 rfl (by decide +kernel) (Dtu.ext (lk rfl) rfl) rfl ?_
  refine AB.u 14 rfl (by decide +kernel) (Dtu.asg (lk rfl)) rfl ?_
  refine AB.u 15 rfl (by decide +kernel) (Dtu.asg (lk rfl)) rfl ?_
  refine AB.done (by decide +kernel) ?_
  refine Then.next ?_
  refine Body.seq ?_
  refine Body.seq ?_
  refine Body.region ?_
  refine Ops.u (Dtu.mv (lk rfl)) rfl ?_
  refine Ops.u (Dtu.neq (lk rfl) (lk rfl)) rfl ?_
  refine Ops.nil ?_
  refine Then.next ?_
  refine Body.condP (lk rfl) (fun hy => absurd hy (by first | omega | assumption | decide)) (fun _ => ?_)
  refine Body.skip ?_
  refine Then.next ?_
  refine Body.seq ?_
  refine Body.region ?_
  refine Ops.d (Det.ld Try.isAgg54 (lk rfl) (Rd.ow 3 rfl rfl)) rfl ?_
  refine Ops.u (Dtu.nilck (lk rfl)) rfl ?_
  refine Ops.u (Dtu.fld fa102_3 (lk rfl)) rfl ?_
  refine Ops.d (Det.ld Try.isAgg100 (lk rfl) (Rd.ow 1 rfl rfl)) rfl ?_
  refine Ops.u (Dtu.mkfC (lks rfl)) rfl ?_
  refine Ops.s (Stp.callOwn [3] rfl rfl Try.call56 (lks rfl) (fun E' le hat => containsM_ok E' (.slice qa l.length qc) l (a.n : Nat) _ o _ (by first | exact hat _ (.head _) | exact hat _ (.tail _ (.head _)) | exact hat _ (.tail _ (.tail _ (.head _)))) (Sl.mono (by assumption) le)) ?_) rfl
  rintro _ _ ⟨rfl, rfl⟩
  refine Ops.u (Dtu.asg (lk rfl)) rfl ?_
  refine Ops.nil ?_
  refine Then.next ?_
  refine Body.seq ?_
  refine Body.seq ?_
  refine Body.draw mixed ?_
  refine AB.u 0 rfl (by decide +kernel) (Dtu.mv (lk rfl)) rfl ?_
  refine AB.u 1 rfl (by decide +kernel) (Dtu.notP (lk rfl)) rfl ?_
  refine AB.u 2 rfl (by decide +kernel) (Dtu.mv (lk rfl)) rfl ?_
  refine AB.decP 40 rfl (fun _ => ?_) (fun hn => absurd (by first | omega | assumption | decide) hn)
  refine AB.gd 3 rfl (by decide +kernel) rfl rfl rfl rfl (Det.ld Try.isAgg54 (lk rfl) (Rd.ow 0 rfl rfl)) rfl ?_
  refine AB.gu 4 rfl (by decide +kernel) rfl rfl rfl (Dtu.nilck (lk rfl)) rfl ?_
  refine AB.gu 5 rfl (by decide +kernel) rfl rfl rfl (Dtu.fld fa102_1 (lk rfl)) rfl ?_
  refine AB.gu 6 rfl (by decide +kernel) rfl rfl rfl (Dtu.fld fa98_0 (lk rfl)) rfl ?_
  refine AB.gd 7 rfl (by decide +kernel) rfl rfl rfl rfl (Det.ld Try.isAgg22 (lk rfl) (Rd.ow 2 rfl rfl)) rfl ?_
  refine AB.gd 8 rfl (by decide +kernel) rfl rfl rfl rfl (Det.ld Try.isAgg54 (lk rfl) (Rd.ow 0 rfl rfl)) rfl ?_
  refine AB.gu 9 rfl (by decide +kernel) rfl rfl rfl (Dtu.nilck (lk rfl)) rfl ?_
  refine AB.gu 10 rfl (by decide +kernel) rfl rfl rfl (Dtu.fld fa102_2 (lk rfl)) rfl ?_
  refine AB.gu 11 rfl (by decide +kernel) rfl rfl rfl (Dtu.fld fa98_0 (lk rfl)) rfl ?_
  refine AB.gd 12 rfl (by decide +kernel) rfl rfl rfl rfl (Det.ld Try.isAgg22 (lk rfl) (Rd.ow 2 rfl rfl)) rfl ?_
  refine AB.gu 13 rfl (by decide +kernel) rfl rfl rfl (Dtu.gtr (lk rfl) (lk rfl)) rfl ?_
  refine AB.u 14 rfl (by decide +kernel) (Dtu.pickT (lk rfl) (lk rfl)) rfl ?_
  refine AB.done (by decide +kernel) ?_
  refine Then.next ?_
  refine Body.condP (lk rfl) (fun _ => ?_) (fun hn => absurd (by first | omega | assumption | decide) hn)
  refine Body.seq ?_
  refine Body.region ?_
  refine Ops.d (Det.ld Try.isAgg54 (lk rfl) (Rd.ow 0 rfl rfl)) rfl ?_
  refine Ops.u (Dtu.nilck (lk rfl)) rfl ?_
  refine Ops.u (Dtu.fld fa102_3 (lk rfl)) rfl ?_
  refine Ops.d (Det.ld Try.isAgg100 (lk rfl) (Rd.ow 2 rfl rfl)) rfl ?_
  refine Ops.u (Dtu.lenS Try.underlying100 (Sl.up hl) (lk rfl)) rfl ?_
  refine Ops.u (Dtu.min (lk rfl) (lk rfl)) rfl ?_
  refine Ops.u (Dtu.asg (lk rfl)) rfl ?_
  refine Ops.nil ?_
  refine Then.next ?_
  rw [hmn]
  generalize min l.length 31 = k at *
  refine Body.draw mixed ?_
  refine AB.d 0 rfl (by decide +kernel) rfl (Det.ld Try.isAgg54 (lk rfl) (Rd.ow 0 rfl rfl)) rfl ?_
  refine AB.d 1 rfl (by decide +kernel) rfl (Det.ld Try.isAgg54 (lk rfl) (Rd.ow 0 rfl rfl)) rfl ?_
  refine AB.u 2 rfl (by decide +kernel) (Dtu.nilck (lk rfl)) rfl ?_
  refine AB.u 3 rfl (by decide +kernel) (Dtu.fld fa102_3 (lk rfl)) rfl ?_
  refine AB.d 4 rfl (by decide +kernel) rfl (Det.ld Try.isAgg100 (lk rfl) (Rd.ow 2 rfl rfl)) rfl ?_
  refine AB.u 5 rfl (by decide +kernel) (Dtu.mv (lk rfl)) rfl ?_
  refine AB.u 6 rfl (by decide +kernel) (Dtu.mv (lk rfl)) rfl ?_
  refine AB.u 7 rfl (by decide +kernel) (Dtu.slHM (k) (k) Try.underlying100 Try.sizeOf98 (Sl.up hl) (lk rfl) (lk rfl) (lk rfl) (by omega) (by omega) (by omega) (by omega)) rfl ?_
  refine AB.d 8 rfl (by decide +kernel) rfl (Det.ld Try.isAgg54 (lk rfl) (Rd.ow 0 rfl rfl)) rfl ?_
  refine AB.u 9 rfl (by decide +kernel) (Dtu.nilck (lk rfl)) rfl ?_
  refine AB.u 10 rfl (by decide +kernel) (Dtu.fld fa102_1 (lk rfl)) rfl ?_
  refine AB.d 11 rfl (by decide +kernel) rfl (Det.lda Try.isAgg98 Try.sizeOf98 (lk rfl) (Rds.ow (m := 11) 2 rfl rfl) rfl) rfl ?_
  refine AB.s 12 rfl (by decide +kernel) (by decide +kernel) (Stp.buildSliceO Try.underlying100 ty98 (by decide) (by decide) (lkp rfl) rfl rfl rfl (by decide) (fun v71 => ?_)) rfl
  refine AB.s 13 rfl (by decide +kernel) (by decide +kernel) (Stp.appendFull Try.underlying100 ty98 rfl (lk rfl) (lk rfl) (Sl.up hsub) (by first | rfl | (simp [capOf, subSl]; done)) (Sl.osl 0 rfl) (by omega) (by omega) (by omega) (fun v72 => ?_)) rfl
  refine AB.u 14 rfl (by decide +kernel) (Dtu.nilck (lk rfl)) rfl ?_
  refine AB.u 15 rfl (by decide +kernel) (Dtu.fld fa102_3 (lk rfl)) rfl ?_
  refine AB.pure (Sl.shape (Sl.osl 0 rfl)) fun hslv72 => ?_
  obtain ⟨v72a, v72c, rfl⟩ := hslv72
  refine AB.e 16 rfl (by decide +kernel) (by decide +kernel) (Stp.store 4 Try.sizeOf100 (lk rfl) (lk rfl) rfl rfl rfl rfl rfl rfl rfl ?_)
  refine AB.done (by decide +kernel) ?_
  refine Then.next ?_
  refine Body.seq ?_
  refine Body.drawE [2] mixed rfl ?_
  rintro E10' le10 ⟨hA10_0, -⟩
  have ha_10 := Sl.mono ha le10
  have hbb_10 := Sl.mono hbb le10
  have hl_10 := Sl.mono hl le10
  have hsub_10 := Sl.mono hsub le10
  refine AE.d 0 rfl (by decide +kernel) (Det.ld Try.isAgg54 (lk rfl) (Rd.env (own_at hA10_0 rfl))) rfl ?_
  refine AE.d 1 rfl (by decide +kernel) (Det.ld Try.isAgg54 (lk rfl) (Rd.env (own_at hA10_0 rfl))) rfl ?_
  refine AE.d 2 rfl (by decide +kernel) (Det.ld Try.isAgg54 (lk rfl) (Rd.env (own_at hA10_0 rfl))) rfl ?_
  refine AE.u 3 rfl (by decide +kernel) (Dtu.nilck (lk rfl)) rfl ?_
  refine AE.u 4 rfl (by decide +kernel) (Dtu.fld fa102_1 (lk rfl)) rfl ?_
  refine AE.u 5 rfl (by decide +kernel) (Dtu.fld fa98_0 (lk rfl)) rfl ?_
  refine AE.u 7 rfl (by decide +kernel) (Dtu.mv (lk rfl)) rfl ?_
  refine AE.more [6] (by decide +kernel) rfl ⟨?_, trivial⟩
  refine AEI.d rfl (Det.ld Try.isAgg22 (lk rfl) (Rd.ow 3 rfl rfl)) rfl ?_
  refine AE.u 8 rfl (by decide +kernel) (Dtu.nilck (lk rfl)) rfl ?_
  refine AE.u 9 rfl (by decide +kernel) (Dtu.fld fa102_4 (lk rfl)) rfl ?_
  refine AE.more [10] (by decide +kernel) rfl ⟨?_, trivial⟩
  refine AEI.e rfl (Stp.store 3 Try.sizeOf22 (lk rfl) (lk rfl) rfl rfl rfl rfl rfl rfl rfl ?_)
  refine AE.u 11 rfl (by decide +kernel) (Dtu.nilck (lk rfl)) rfl ?_
  refine AE.u 12 rfl (by decide +kernel) (Dtu.fld fa102_5 (lk rfl)) rfl ?_
  refine AE.more [13] (by decide +kernel) rfl ⟨?_, trivial⟩
  refine AEI.e rfl (Stp.store 3 Try.sizeOf3 (lk rfl) (lk rfl) rfl rfl rfl rfl rfl rfl rfl ?_)
  refine AE.done (by decide +kernel) ?_
  refine Then.next ?_
  refine Body.seq ?_
  refine Body.draw mixed ?_
  refine AB.d 0 rfl (by decide +kernel) rfl (Det.ld Try.isAgg54 (lk rfl) (Rd.ow 5 rfl rfl)) rfl ?_
  refine AB.u 1 rfl (by decide +kernel) (Dtu.nilck (lk rfl)) rfl ?_
  refine AB.u 2 rfl (by decide +kernel) (Dtu.fld fa102_2 (lk rfl)) rfl ?_
  refine AB.u 3 rfl (by decide +kernel) (Dtu.fld fa98_0 (lk rfl)) rfl ?_
  refine AB.d 4 rfl (by decide +kernel) rfl (Det.ld Try.isAgg22 (lk rfl) (Rd.ow 3 rfl rfl)) rfl ?_
  refine AB.d 5 rfl (by decide +kernel) rfl (Det.ld Try.isAgg54 (lk rfl) (Rd.ow 5 rfl rfl)) rfl ?_
  refine AB.u 6 rfl (by decide +kernel) (Dtu.nilck (lk rfl)) rfl ?_
  refine AB.u 7 rfl (by decide +kernel) (Dtu.fld fa102_1 (lk rfl)) rfl ?_
  refine AB.u 8 rfl (by decide +kernel) (Dtu.fld fa98_0 (lk rfl)) rfl ?_
  refine AB.d 9 rfl (by decide +kernel) rfl (Det.ld Try.isAgg22 (lk rfl) (Rd.ow 3 rfl rfl)) rfl ?_
  refine AB.u 10 rfl (by decide +kernel) (Dtu.mv (lk rfl)) rfl ?_
  refine AB.pure (Sl.shape (Sl.osl 2 rfl)) fun hslds25 => ?_
  obtain ⟨ds25a, ds25c, rfl⟩ := hslds25
  refine AB.u 11 rfl (by decide +kernel) (Dtu.build ty73 pl73 (lkp rfl) rfl rfl) rfl ?_
  refine AB.e 12 rfl (by decide +kernel) (by decide +kernel) (Stp.store 4 Try.sizeOf73 (lk rfl) (lk rfl) rfl rfl rfl rfl rfl rfl rfl ?_)
  refine AB.u 13 rfl (by decide +kernel) (Dtu.asg (lk rfl)) rfl ?_
  refine AB.done (by decide +kernel) ?_
  refine Then.next ?_
  refine Body.ret ?_
  exact ⟨.inr rfl, _, Loads.agg Try.isAgg73 Try.sizeOf73 (Rds.ow (m := 3) 4 rfl rfl) rfl, _, pk [3, 0, 1] rfl, _, _, _, _, _, rfl, rfl⟩
end Go.Proofs.Ytagcpamchgpgiaa
end
section
/- sync: Ack, Anew. -/
namespace Go.Proofs.Ytagcpamchgpgiaa
set_option maxRecDepth 100000
set_option maxHeartbeats 4000000
set_option linter.unusedVariables false
set_option linter.unusedSimpArgs false
open Go.Sx

theorem all_one {us : List Value} (h : us.all (·.oneCell') = true) : us.all (·.oneCell') = true := h
theorem verAll {l : List Ver} (h : ∀ v ∈ l, IsSl v.s) : (l.flatMap Ver.enc).all (·.oneCell') = true := by
  rw [List.all_eq_true]
  intro x hx
  obtain ⟨v, hv, hx⟩ := List.mem_flatMap.1 hx
  have := (h v hv).one
  simp only [Ver.enc, List.mem_cons, List.not_mem_nil, or_false] at hx
  rcases hx with rfl | rfl | rfl | rfl | rfl | rfl | rfl | rfl | rfl | rfl | rfl <;> first | exact this | rfl
theorem ack_old (E : Env) (o : Nat) (a b : Ver) (qa : Option Addr) (l : List Ver) (qc : Nat) (last whn : Int) (n : Int) (h : n < b.n) : Does Try.prog 30 #[.pointer (some ⟨o, 0, none⟩), .int .u64 n] E ([own o [.bool true, .int .u64 (a.n : Nat), .int .i64 a.x.v.rows, .int .i64 a.x.v.cols, a.s, .int .i64 a.x.v.row, .int .i64 a.x.v.col, .bool a.x.v.vis, .string a.x.title, .string a.x.clip, .int .u64 a.x.clips, .int .u64 a.x.bells, .int .u64 (b.n : Nat), .int .i64 b.x.v.rows, .int .i64 b.x.v.cols, b.s, .int .i64 b.x.v.row, .int .i64 b.x.v.col, .bool b.x.v.vis, .string b.x.title, .string b.x.clip, .int .u64 b.x.clips, .int .u64 b.x.bells, .slice qa l.length qc, .int .u64 last, .int .i64 whn] 102]) fun r H' => r = .int .i64 23 ∧ H' = [own o [.bool true, .int .u64 (a.n : Nat), .int .i64 a.x.v.rows, .int .i64 a.x.v.cols, a.s, .int .i64 a.x.v.row, .int .i64 a.x.v.col, .bool a.x.v.vis, .string a.x.title, .string a.x.clip, .int .u64 a.x.clips, .int .u64 a.x.bells, .int .u64 (b.n : Nat), .int .i64 b.x.v.rows, .int .i64 b.x.v.cols, b.s, .int .i64 b.x.v.row, .int .i64 b.x.v.col, .bool b.x.v.vis, .string b.x.title, .string b.x.clip, .int .u64 b.x.clips, .int .u64 b.x.bells, .slice qa l.length qc, .int .u64 last, .int .i64 whn] 102] := by
  refine Does.go _ _ Try.func30 rfl Try.ntmps30 rfl rfl ?_
  refine Body.seq ?_
  refine Body.region ?_
  refine Ops.s (Stp.box (lk rfl) rfl (fun b3 => ?_)) rfl
  refine Ops.u (Dtu.asg (lk rfl)) rfl ?_
  refine Ops.nil ?_
  refine Then.next ?_
  refine Body.seq ?_
  refine Body.block ?_
  refine Body.seq ?_
  refine Body.region ?_
  refine Ops.u (Dtu.mv (lk rfl)) rfl ?_
  refine Ops.s (Stp.callOwn [1] rfl rfl Try.call51 (lks rfl) (fun E' le hat => is_b E' _ _ _ _ _ _ _ _) ?_) rfl
  rintro _ _ ⟨rfl, rfl⟩
  refine Ops.u (Dtu.not (lk rfl)) rfl ?_
  refine Ops.u (Dtu.asg (lk rfl)) rfl ?_
  refine Ops.nil ?_
  refine Then.next ?_
  refine Body.condF (lk rfl) ?_
  refine Body.seq ?_
  refine Body.draw mixed ?_
  refine AB.d 0 rfl (by decide +kernel) rfl (Det.ld Try.isAgg22 (lk rfl) (Rd.ow 1 rfl rfl)) rfl ?_
  refine AB.u 1 rfl (by decide +kernel) (Dtu.mv (lk rfl)) rfl ?_
  refine AB.u 2 rfl (by decide +kernel) (Dtu.nilck (lk rfl)) rfl ?_
  refine AB.u 3 rfl (by decide +kernel) (Dtu.fld fa102_2 (lk rfl)) rfl ?_
  refine AB.u 4 rfl (by decide +kernel) (Dtu.fld fa98_0 (lk rfl)) rfl ?_
  refine AB.d 5 rfl (by decide +kernel) rfl (Det.ld Try.isAgg22 (lk rfl) (Rd.ow 0 rfl rfl)) rfl ?_
  refine AB.u 6 rfl (by decide +kernel) (Dtu.lss (lk rfl) (lk rfl)) rfl ?_
  refine AB.u 7 rfl (by decide +kernel) (Dtu.asg (lk rfl)) rfl ?_
  refine AB.done (by decide +kernel) ?_
  refine Then.next ?_
  refine Body.condP (lk rfl) (fun _ => ?_) (fun hn => absurd (by first | omega | assumption | decide) hn)
  refine Body.seq ?_
  refine Body.region ?_
  refine Ops.u (Dtu.asg (lk rfl)) rfl ?_
  refine Ops.nil ?_
  refine Then.next ?_
  refine Body.ret ?_
  refine Blk.ret ?_
  refine Then.ret ?_
  exact ⟨.inr rfl, _, pk [0] rfl, rfl, rfl⟩
theorem ack_arg (E : Env) (o : Nat) (a b : Ver) (qa : Option Addr) (l : List Ver) (qc : Nat) (last whn : Int) (n : Int) (h : ¬ n < b.n) (h2 : (a.n : Int) < n) : Does Try.prog 30 #[.pointer (some ⟨o, 0, none⟩), .int .u64 n] E ([own o [.bool true, .int .u64 (a.n : Nat), .int .i64 a.x.v.rows, .int .i64 a.x.v.cols, a.s, .int .i64 a.x.v.row, .int .i64 a.x.v.col, .bool a.x.v.vis, .string a.x.title, .string a.x.clip, .int .u64 a.x.clips, .int .u64 a.x.bells, .int .u64 (b.n : Nat), .int .i64 b.x.v.rows, .int .i64 b.x.v.cols, b.s, .int .i64 b.x.v.row, .int .i64 b.x.v.col, .bool b.x.v.vis, .string b.x.title, .string b.x.clip, .int .u64 b.x.clips, .int .u64 b.x.bells, .slice qa l.length qc, .int .u64 last, .int .i64 whn] 102]) fun r H' => r = .int .i64 1 ∧ H' = [own o [.bool true, .int .u64 (a.n : Nat), .int .i64 a.x.v.rows, .int .i64 a.x.v.cols, a.s, .int .i64 a.x.v.row, .int .i64 a.x.v.col, .bool a.x.v.vis, .string a.x.title, .string a.x.clip, .int .u64 a.x.clips, .int .u64 a.x.bells, .int .u64 (b.n : Nat), .int .i64 b.x.v.rows, .int .i64 b.x.v.cols, b.s, .int .i64 b.x.v.row, .int .i64 b.x.v.col, .bool b.x.v.vis, .string b.x.title, .string b.x.clip, .int .u64 b.x.clips, .int .u64 b.x.bells, .slice qa l.length qc, .int .u64 last, .int .i64 whn] 102] := by
  refine Does.go _ _ Try.func30 rfl Try.ntmps30 rfl rfl ?_
  refine Body.seq ?_
  refine Body.region ?_
  refine Ops.s (Stp.box (lk rfl) rfl (fun b3 => ?_)) rfl
  refine Ops.u (Dtu.asg (lk rfl)) rfl ?_
  refine Ops.nil ?_
  refine Then.next ?_
  refine Body.seq ?_
  refine Body.block ?_
  refine Body.seq ?_
  refine Body.region ?_
  refine Ops.u (Dtu.mv (lk rfl)) rfl ?_
  refine Ops.s (Stp.callOwn [1] rfl rfl Try.call51 (lks rfl) (fun E' le hat => is_b E' _ _ _ _ _ _ _ _) ?_) rfl
  rintro _ _ ⟨rfl, rfl⟩
  refine Ops.u (Dtu.not (lk rfl)) rfl ?_
  refine Ops.u (Dtu.asg (lk rfl)) rfl ?_
  refine Ops.nil ?_
  refine Then.next ?_
  refine Body.condF (lk rfl) ?_
  refine Body.seq ?_
  refine Body.draw mixed ?_
  refine AB.d 0 rfl (by decide +kernel) rfl (Det.ld Try.isAgg22 (lk rfl) (Rd.ow 1 rfl rfl)) rfl ?_
  refine AB.u 1 rfl (by decide +kernel) (Dtu.mv (lk rfl)) rfl ?_
  refine AB.u 2 rfl (by decide +kernel) (Dtu.nilck (lk rfl)) rfl ?_
  refine AB.u 3 rfl (by decide +kernel) (Dtu.fld fa102_2 (lk rfl)) rfl ?_
  refine AB.u 4 rfl (by decide +kernel) (Dtu.fld fa98_0 (lk rfl)) rfl ?_
  refine AB.d 5 rfl (by decide +kernel) rfl (Det.ld Try.isAgg22 (lk rfl) (Rd.ow 0 rfl rfl)) rfl ?_
  refine AB.u 6 rfl (by decide +kernel) (Dtu.lss (lk rfl) (lk rfl)) rfl ?_
  refine AB.u 7 rfl (by decide +kernel) (Dtu.asg (lk rfl)) rfl ?_
  refine AB.done (by decide +kernel) ?_
  refine Then.next ?_
  refine Body.condP (lk rfl) (fun hy => absurd hy (by first | omega | assumption | decide)) (fun _ => ?_)
  refine Body.seq ?_
  refine Body.draw mixed ?_
  refine AB.d 0 rfl (by decide +kernel) rfl (Det.ld Try.isAgg22 (lk rfl) (Rd.ow 1 rfl rfl)) rfl ?_
  refine AB.u 1 rfl (by decide +kernel) (Dtu.mv (lk rfl)) rfl ?_
  refine AB.u 2 rfl (by decide +kernel) (Dtu.nilck (lk rfl)) rfl ?_
  refine AB.u 3 rfl (by decide +kernel) (Dtu.fld fa102_1 (lk rfl)) rfl ?_
  refine AB.u 4 rfl (by decide +kernel) (Dtu.fld fa98_0 (lk rfl)) rfl ?_
  refine AB.d 5 rfl (by decide +kernel) rfl (Det.ld Try.isAgg22 (lk rfl) (Rd.ow 0 rfl rfl)) rfl ?_
  refine AB.u 6 rfl (by decide +kernel) (Dtu.gtr (lk rfl) (lk rfl)) rfl ?_
  refine AB.u 7 rfl (by decide +kernel) (Dtu.asg (lk rfl)) rfl ?_
  refine AB.done (by decide +kernel) ?_
  refine Then.next ?_
  refine Body.condP (lk rfl) (fun _ => ?_) (fun hn => absurd (by first | omega | assumption | decide) hn)
  refine Body.seq ?_
  refine Body.region ?_
  refine Ops.u (Dtu.asg (lk rfl)) rfl ?_
  refine Ops.nil ?_
  refine Then.next ?_
  refine Body.ret ?_
  refine Blk.ret ?_
  refine Then.ret ?_
  exact ⟨.inr rfl, _, pk [0] rfl, rfl, rfl⟩
theorem ack_base (E : Env) (o : Nat) (a b : Ver) (qa : Option Addr) (l : List Ver) (qc : Nat) (last whn : Int) (n : Int) (h : n = b.n) (h2 : ¬ (a.n : Int) < n) : Does Try.prog 30 #[.pointer (some ⟨o, 0, none⟩), .int .u64 n] E ([own o [.bool true, .int .u64 (a.n : Nat), .int .i64 a.x.v.rows, .int .i64 a.x.v.cols, a.s, .int .i64 a.x.v.row, .int .i64 a.x.v.col, .bool a.x.v.vis, .string a.x.title, .string a.x.clip, .int .u64 a.x.clips, .int .u64 a.x.bells, .int .u64 (b.n : Nat), .int .i64 b.x.v.rows, .int .i64 b.x.v.cols, b.s, .int .i64 b.x.v.row, .int .i64 b.x.v.col, .bool b.x.v.vis, .string b.x.title, .string b.x.clip, .int .u64 b.x.clips, .int .u64 b.x.bells, .slice qa l.length qc, .int .u64 last, .int .i64 whn] 102]) fun r H' => r = .int .i64 0 ∧ H' = [own o [.bool true, .int .u64 (a.n : Nat), .int .i64 a.x.v.rows, .int .i64 a.x.v.cols, a.s, .int .i64 a.x.v.row, .int .i64 a.x.v.col, .bool a.x.v.vis, .string a.x.title, .string a.x.clip, .int .u64 a.x.clips, .int .u64 a.x.bells, .int .u64 (b.n : Nat), .int .i64 b.x.v.rows, .int .i64 b.x.v.cols, b.s, .int .i64 b.x.v.row, .int .i64 b.x.v.col, .bool b.x.v.vis, .string b.x.title, .string b.x.clip, .int .u64 b.x.clips, .int .u64 b.x.bells, .slice qa l.length qc, .int .u64 last, .int .i64 whn] 102] := by
  refine Does.go _ _ Try.func30 rfl Try.ntmps30 rfl rfl ?_
  refine Body.seq ?_
  refine Body.region ?_
  refine Ops.s (Stp.box (lk rfl) rfl (fun b3 => ?_)) rfl
  refine Ops.u (Dtu.asg (lk rfl)) rfl ?_
  refine Ops.nil ?_
  refine Then.next ?_
  refine Body.seq ?_
  refine Body.block ?_
  refine Body.seq ?_
  refine Body.region ?_
  refine Ops.u (Dtu.mv (lk rfl)) rfl ?_
  refine Ops.s (Stp.callOwn [1] rfl rfl Try.call51 (lks rfl) (fun E' le hat => is_b E' _ _ _ _ _ _ _ _) ?_) rfl
  rintro _ _ ⟨rfl, rfl⟩
  refine Ops.u (Dtu.not (lk rfl)) rfl ?_
  refine Ops.u (Dtu.asg (lk rfl)) rfl ?_
  refine Ops.nil ?_
  refine Then.next ?_
  refine Body.condF (lk rfl) ?_
  refine Body.seq ?_
  refine Body.draw mixed ?_
  refine AB.d 0 rfl (by decide +kernel) rfl (Det.ld Try.isAgg22 (lk rfl) (Rd.ow 1 rfl rfl)) rfl ?_
  refine AB.u 1 rfl (by decide +kernel) (Dtu.mv (lk rfl)) rfl ?_
  refine AB.u 2 rfl (by decide +kernel) (Dtu.nilck (lk rfl)) rfl ?_
  refine AB.u 3 rfl (by decide +kernel) (Dtu.fld fa102_2 (lk rfl)) rfl ?_
  refine AB.u 4 rfl (by decide +kernel) (Dtu.fld fa98_0 (lk rfl)) rfl ?_
  refine AB.d 5 rfl (by decide +kernel) rfl (Det.ld Try.isAgg22 (lk rfl) (Rd.ow 0 rfl rfl)) rfl ?_
  refine AB.u 6 rfl (by decide +kernel) (Dtu.lss (lk rfl) (lk rfl)) rfl ?_
  refine AB.u 7 rfl (by decide +kernel) (Dtu.asg (lk rfl)) rfl ?_
  refine AB.done (by decide +kernel) ?_
  refine Then.next ?_
  refine Body.condP (lk rfl) (fun hy => absurd hy (by first | omega | assumption | decide)) (fun _ => ?_)
  refine Body.seq ?_
  refine Body.draw mixed ?_
  refine AB.d 0 rfl (by decide +kernel) rfl (Det.ld Try.isAgg22 (lk rfl) (Rd.ow 1 rfl rfl)) rfl ?_
  refine AB.u 1 rfl (by decide +kernel) (Dtu.mv (lk rfl)) rfl ?_
  refine AB.u 2 rfl (by decide +kernel) (Dtu.nilck (lk rfl)) rfl ?_
  refine AB.u 3 rfl (by decide +kernel) (Dtu.fld fa102_1 (lk rfl)) rfl ?_
  refine AB.u 4 rfl (by decide +kernel) (Dtu.fld fa98_0 (lk rfl)) rfl ?_
  refine AB.d 5 rfl (by decide +kernel) rfl (Det.ld Try.isAgg22 (lk rfl) (Rd.ow 0 rfl rfl)) rfl ?_
  refine AB.u 6 rfl (by decide +kernel) (Dtu.gtr (lk rfl) (lk rfl)) rfl ?_
  refine AB.u 7 rfl (by decide +kernel) (Dtu.asg (lk rfl)) rfl ?_
  refine AB.done (by decide +kernel) ?_
  refine Then.next ?_
  refine Body.condP (lk rfl) (fun hy => absurd hy (by first | omega | assumption | decide)) (fun _ => ?_)
  refine Body.seq ?_
  refine Body.draw mixed ?_
  refine AB.d 0 rfl (by decide +kernel) rfl (Det.ld Try.isAgg22 (lk rfl) (Rd.ow 1 rfl rfl)) rfl ?_
  refine AB.u 1 rfl (by decide +kernel) (Dtu.mv (lk rfl)) rfl ?_
  refine AB.u 2 rfl (by decide +kernel) (Dtu.nilck (lk rfl)) rfl ?_
  refine AB.u 3 rfl (by decide +kernel) (Dtu.fld fa102_2 (lk rfl)) rfl ?_
  refine AB.u 4 rfl (by decide +kernel) (Dtu.fld fa98_0 (lk rfl)) rfl ?_
  refine AB.d 5 rfl (by decide +kernel) rfl (Det.ld Try.isAgg22 (lk rfl) (Rd.ow 0 rfl rfl)) rfl ?_
  refine AB.u 6 rfl (by decide +kernel) (Dtu.eql (lk rfl) (lk rfl)) rfl ?_
  refine AB.u 7 rfl (by decide +kernel) (Dtu.asg (lk rfl)) rfl ?_
  refine AB.done (by decide +kernel) ?_
  refine Then.next ?_
  refine Body.condP (lk rfl) (fun _ => ?_) (fun hn => absurd (by first | omega | assumption | decide) hn)
  refine Body.seq ?_
  refine Body.region ?_
  refine Ops.u (Dtu.asg (lk rfl)) rfl ?_
  refine Ops.nil ?_
  refine Then.next ?_
  refine Body.ret ?_
  refine Blk.ret ?_
  refine Then.ret ?_
  exact ⟨.inr rfl, _, pk [0] rfl, rfl, rfl⟩
theorem ack_none (E : Env) (o : Nat) (a b : Ver) (qa : Option Addr) (l : List Ver) (qc : Nat) (last whn : Int) (n : Int) (h : ¬ n < b.n) (h2 : ¬ (a.n : Int) < n) (h3 : n ≠ b.n) (hl : Sl E [] 11 (.slice qa l.length qc) l.length (l.flatMap Ver.enc)) (hi : firstAt (fun v => decide ((v.n : Int) = n)) l < 0) : Does Try.prog 30 #[.pointer (some ⟨o, 0, none⟩), .int .u64 n] E ([own o [.bool true, .int .u64 (a.n : Nat), .int .i64 a.x.v.rows, .int .i64 a.x.v.cols, a.s, .int .i64 a.x.v.row, .int .i64 a.x.v.col, .bool a.x.v.vis, .string a.x.title, .string a.x.clip, .int .u64 a.x.clips, .int .u64 a.x.bells, .int .u64 (b.n : Nat), .int .i64 b.x.v.rows, .int .i64 b.x.v.cols, b.s, .int .i64 b.x.v.row, .int .i64 b.x.v.col, .bool b.x.v.vis, .string b.x.title, .string b.x.clip, .int .u64 b.x.clips, .int .u64 b.x.bells, .slice qa l.length qc, .int .u64 last, .int .i64 whn] 102]) fun r H' => ∃ (f : Stt) (_ : f = Stt.first) (m1 : Option Addr) (m2 m3 : Nat), r = .int .i64 0 ∧ H' = [own o [.bool true, .int .u64 (a.n : Nat), .int .i64 a.x.v.rows, .int .i64 a.x.v.cols, a.s, .int .i64 a.x.v.row, .int .i64 a.x.v.col, .bool a.x.v.vis, .string a.x.title, .string a.x.clip, .int .u64 a.x.clips, .int .u64 a.x.bells, .int .u64 0, .int .i64 f.v.rows, .int .i64 f.v.cols, .slice m1 m2 m3, .int .i64 f.v.row, .int .i64 f.v.col, .bool f.v.vis, .string f.title, .string f.clip, .int .u64 f.clips, .int .u64 f.bells, .slice qa l.length qc, .int .u64 last, .int .i64 whn] 102, osl 127 4 (.slice m1 m2 m3) f.v.cells.length (f.v.cells.flatMap Cell.enc)] := by
  refine Does.go _ _ Try.func30 rfl Try.ntmps30 rfl rfl ?_
  refine Body.seq ?_
  refine Body.region ?_
  refine Ops.s (Stp.box (lk rfl) rfl (fun b3 => ?_)) rfl
  refine Ops.u (Dtu.asg (lk rfl)) rfl ?_
  refine Ops.nil ?_
  refine Then.next ?_
  refine Body.seq ?_
  refine Body.block ?_
  refine Body.seq ?_
  refine Body.region ?_
  refine Ops.u (Dtu.mv (lk rfl)) rfl ?_
  refine Ops.s (Stp.callOwn [1] rfl rfl Try.call51 (lks rfl) (fun E' le hat => is_b E' _ _ _ _ _ _ _ _) ?_) rfl
  rintro _ _ ⟨rfl, rfl⟩
  refine Ops.u (Dtu.not (lk rfl)) rfl ?_
  refine Ops.u (Dtu.asg (lk rfl)) rfl ?_
  refine Ops.nil ?_
  refine Then.next ?_
  refine Body.condF (lk rfl) ?_
  refine Body.seq ?_
  refine Body.draw mixed ?_
  refine AB.d 0 rfl (by decide +kernel) rfl (Det.ld Try.isAgg22 (lk rfl) (Rd.ow 1 rfl rfl)) rfl ?_
  refine AB.u 1 rfl (by decide +kernel) (Dtu.mv (lk rfl)) rfl ?_
  refine AB.u 2 rfl (by decide +kernel) (Dtu.nilck (lk rfl)) rfl ?_
  refine AB.u 3 rfl (by decide +kernel) (Dtu.fld fa102_2 (lk rfl)) rfl ?_
  refine AB.u 4 rfl (by decide +kernel) (Dtu.fld fa98_0 (lk rfl)) rfl ?_
  refine AB.d 5 rfl (by decide +kernel) rfl (Det.ld Try.isAgg22 (lk rfl) (Rd.ow 0 rfl rfl)) rfl ?_
  refine AB.u 6 rfl (by decide +kernel) (Dtu.lss (lk rfl) (lk rfl)) rfl ?_
  refine AB.u 7 rfl (by decide +kernel) (Dtu.asg (lk rfl)) rfl ?_
  refine AB.done (by decide +kernel) ?_
  refine Then.next ?_
  refine Body.condP (lk rfl) (fun hy => absurd hy (by first | omega | assumption | decide)) (fun _ => ?_)
  refine Body.seq ?_
  refine Body.draw mixed ?_
  refine AB.d 0 rfl (by decide +kernel) rfl (Det.ld Try.isAgg22 (lk rfl) (Rd.ow 1 rfl rfl)) rfl ?_
  refine AB.u 1 rfl (by decide +kernel) (Dtu.mv (lk rfl)) rfl ?_
  refine AB.u 2 rfl (by decide +kernel) (Dtu.nilck (lk rfl)) rfl ?_
  refine AB.u 3 rfl (by decide +kernel) (Dtu.fld fa102_1 (lk rfl)) rfl ?_
  refine AB.u 4 rfl (by decide +kernel) (Dtu.fld fa98_0 (lk rfl)) rfl ?_
  refine AB.d 5 rfl (by decide +kernel) rfl (Det.ld Try.isAgg22 (lk rfl) (Rd.ow 0 rfl rfl)) rfl ?_
  refine AB.u 6 rfl (by decide +kernel) (Dtu.gtr (lk rfl) (lk rfl)) rfl ?_
  refine AB.u 7 rfl (by decide +kernel) (Dtu.asg (lk rfl)) rfl ?_
  refine AB.done (by decide +kernel) ?_
  refine Then.next ?_
  refine Body.condP (lk rfl) (fun hy => absurd hy (by first | omega | assumption | decide)) (fun _ => ?_)
  refine Body.seq ?_
  refine Body.draw mixed ?_
  refine AB.d 0 rfl (by decide +kernel) rfl (Det.ld Try.isAgg22 (lk rfl) (Rd.ow 1 rfl rfl)) rfl ?_
  refine AB.u 1 rfl (by decide +kernel) (Dtu.mv (lk rfl)) rfl ?_
  refine AB.u 2 rfl (by decide +kernel) (Dtu.nilck (lk rfl)) rfl ?_
  refine AB.u 3 rfl (by decide +kernel) (Dtu.fld fa102_2 (lk rfl)) rfl ?_
  refine AB.u 4 rfl (by decide +kernel) (Dtu.fld fa98_0 (lk rfl)) rfl ?_
  refine AB.d 5 rfl (by decide +kernel) rfl (Det.ld Try.isAgg22 (lk rfl) (Rd.ow 0 rfl rfl)) rfl ?_
  refine AB.u 6 rfl (by decide +kernel) (Dtu.eql (lk rfl) (lk rfl)) rfl ?_
  refine AB.u 7 rfl (by decide +kernel) (Dtu.asg (lk rfl)) rfl ?_
  refine AB.done (by decide +kernel) ?_
  refine Then.next ?_
  refine Body.condP (lk rfl) (fun hy => absurd hy (by first | omega | assumption | decide)) (fun _ => ?_)
  refine Body.skip ?_
  refine Blk.norm ?_
  refine Then.next ?_
  refine Body.seq ?_
  refine Body.region ?_
  refine Ops.u (Dtu.mv (lk rfl)) rfl ?_
  refine Ops.u (Dtu.nilck (lk rfl)) rfl ?_
  refine Ops.u (Dtu.fld fa102_3 (lk rfl)) rfl ?_
  refine Ops.d (Det.ld Try.isAgg100 (lk rfl) (Rd.ow 0 rfl rfl)) rfl ?_
  refine Ops.u (Dtu.mkfC (lks rfl)) rfl ?_
  refine Ops.s (Stp.callOwn [1] rfl rfl Try.call59 (lks rfl) (fun E' le hat => indexA_ok E' (.slice qa l.length qc) l n _ (Sl.mono (by assumption) le)) ?_) rfl
  rintro _ _ ⟨rfl, rfl⟩
  refine Ops.u (Dtu.asg (lk rfl)) rfl ?_
  refine Ops.nil ?_
  refine Then.next ?_
  refine Body.seq ?_
  refine Body.seq ?_
  refine Body.region ?_
  refine Ops.u (Dtu.mv (lk rfl)) rfl ?_
  refine Ops.u (Dtu.lss (lk rfl) (lk rfl)) rfl ?_
  refine Ops.nil ?_
  refine Then.next ?_
  refine Body.condP (lk rfl) (fun _ => ?_) (fun hn => absurd (by first | omega | assumption | decide) hn)
  refine Body.seq ?_
  refine Body.region ?_
  refine Ops.u (Dtu.mv (lk rfl)) rfl ?_
  refine Ops.s (Stp.call rfl Try.call49 (lks rfl) (fun E' le hat => first_v E') ?_) rfl
  rintro _ _ ⟨nf43, hnf43, ma43, mb43, mc43, rfl, rfl⟩
  refine Ops.u (Dtu.nilck (lk rfl)) rfl ?_
  refine Ops.u (Dtu.fld fa102_2 (lk rfl)) rfl ?_
  refine Ops.e (Stp.store 2 Try.sizeOf98 (lk rfl) (lk rfl) rfl rfl rfl rfl rfl rfl rfl ?_)
  refine Ops.nil ?_
  refine Then.next ?_
  refine Body.seq ?_
  refine Body.region ?_
  refine Ops.u (Dtu.asg (lk rfl)) rfl ?_
  refine Ops.nil ?_
  refine Then.next ?_
  refine Body.ret ?_
  refine Then.ret ?_
  exact ⟨.inr rfl, _, pk [2, 0] rfl, _, hnf43, _, _, _, rfl, rfl⟩
theorem ack_some (E : Env) (o : Nat) (a b : Ver) (qa : Option Addr) (l : List Ver) (qc : Nat) (last whn : Int) (n : Int) (h : ¬ n < b.n) (h2 : ¬ (a.n : Int) < n) (h3 : n ≠ b.n) (hl : Sl E [] 11 (.slice qa l.length qc) l.length (l.flatMap Ver.enc)) (i : Nat) (hi : firstAt (fun v => decide ((v.n : Int) = n)) l = i) (hil : i < l.length) (hlen : l.length ≤ 32) (hsl : ∀ v ∈ l, IsSl v.s) : Does Try.prog 30 #[.pointer (some ⟨o, 0, none⟩), .int .u64 n] E ([own o [.bool true, .int .u64 (a.n : Nat), .int .i64 a.x.v.rows, .int .i64 a.x.v.cols, a.s, .int .i64 a.x.v.row, .int .i64 a.x.v.col, .bool a.x.v.vis, .string a.x.title, .string a.x.clip, .int .u64 a.x.clips, .int .u64 a.x.bells, .int .u64 (b.n : Nat), .int .i64 b.x.v.rows, .int .i64 b.x.v.cols, b.s, .int .i64 b.x.v.row, .int .i64 b.x.v.col, .bool b.x.v.vis, .string b.x.title, .string b.x.clip, .int .u64 b.x.clips, .int .u64 b.x.bells, .slice qa l.length qc, .int .u64 last, .int .i64 whn] 102]) fun r H' => ∃ q1 q2 q3, r = .int .i64 0 ∧ H' = [own o [.bool true, .int .u64 (a.n : Nat), .int .i64 a.x.v.rows, .int .i64 a.x.v.cols, a.s, .int .i64 a.x.v.row, .int .i64 a.x.v.col, .bool a.x.v.vis, .string a.x.title, .string a.x.clip, .int .u64 a.x.clips, .int .u64 a.x.bells, .int .u64 ((l[i]!).n : Nat), .int .i64 (l[i]!).x.v.rows, .int .i64 (l[i]!).x.v.cols, (l[i]!).s, .int .i64 (l[i]!).x.v.row, .int .i64 (l[i]!).x.v.col, .bool (l[i]!).x.v.vis, .string (l[i]!).x.title, .string (l[i]!).x.clip, .int .u64 (l[i]!).x.clips, .int .u64 (l[i]!).x.bells, .slice q1 q2 q3, .int .u64 last, .int .i64 whn] 102, osl 98 11 (.slice q1 q2 q3) (l.length - (i + 1)) ((l.drop (i + 1)).flatMap Ver.enc)] := by
  have h1 := verAll (l := l.drop (i + 1)) fun v hv => hsl v (List.mem_of_mem_drop hv)
  have hone : (l[i]!.enc).all (·.oneCell') = true := by
    have := verAll (l := [l[i]!]) (by intro v hv; rw [List.mem_singleton.1 hv, getElem!_pos l i hil]; exact hsl _ (List.getElem_mem _))
    simpa using this
  have hdrop := Sl.dropF (enc := Ver.enc) (sz := 11) (fun _ => rfl) hl (k := i + 1) (by omega)
  refine Does.go _ _ Try.func30 rfl Try.ntmps30 rfl rfl ?_
  refine Body.seq ?_
  refine Body.region ?_
  refine Ops.s (Stp.box (lk rfl) rfl (fun b3 => ?_)) rfl
  refine Ops.u (Dtu.asg (lk rfl)) rfl ?_
  refine Ops.nil ?_
  refine Then.next ?_
  refine Body.seq ?_
  refine Body.block ?_
  refine Body.seq ?_
  refine Body.region ?_
  refine Ops.u (Dtu.mv (lk rfl)) rfl ?_
  refine Ops.s (Stp.callOwn [1] rfl rfl Try.call51 (lks rfl) (fun E' le hat => is_b E' _ _ _ _ _ _ _ _) ?_) rfl
  rintro _ _ ⟨rfl, rfl⟩
  refine Ops.u (Dtu.not (lk rfl)) rfl ?_
  refine Ops.u (Dtu.asg (lk rfl)) rfl ?_
  refine Ops.nil ?_
  refine Then.next ?_
  refine Body.condF (lk rfl) ?_
  refine Body.seq ?_
  refine Body.draw mixed ?_
  refine AB.d 0 rfl (by decide +kernel) rfl (Det.ld Try.isAgg22 (lk rfl) (Rd.ow 1 rfl rfl)) rfl ?_
  refine AB.u 1 rfl (by decide +kernel) (Dtu.mv (lk rfl)) rfl ?_
  refine AB.u 2 rfl (by decide +kernel) (Dtu.nilck (lk rfl)) rfl ?_
  refine AB.u 3 rfl (by decide +kernel) (Dtu.fld fa102_2 (lk rfl)) rfl ?_
  refine AB.u 4 rfl (by decide +kernel) (Dtu.fld fa98_0 (lk rfl)) rfl ?_
  refine AB.d 5 rfl (by decide +kernel) rfl (Det.ld Try.isAgg22 (lk rfl) (Rd.ow 0 rfl rfl)) rfl ?_
  refine AB.u 6 rfl (by decide +kernel) (Dtu.lss (lk rfl) (lk rfl)) rfl ?_
  refine AB.u 7 rfl (by decide +kernel) (Dtu.asg (lk rfl)) rfl ?_
  refine AB.done (by decide +kernel) ?_
  refine Then.next ?_
  refine Body.condP (lk rfl) (fun hy => absurd hy (by first | omega | assumption | decide)) (fun _ => ?_)
  refine Body.seq ?_
  refine Body.draw mixed ?_
  refine AB.d 0 rfl (by decide +kernel) rfl (Det.ld Try.isAgg22 (lk rfl) (Rd.ow 1 rfl rfl)) rfl ?_
  refine AB.u 1 rfl (by decide +kernel) (Dtu.mv (lk rfl)) rfl ?_
  refine AB.u 2 rfl (by decide +kernel) (Dtu.nilck (lk rfl)) rfl ?_
  refine AB.u 3 rfl (by decide +kernel) (Dtu.fld fa102_1 (lk rfl)) rfl ?_
  refine AB.u 4 rfl (by decide +kernel) (Dtu.fld fa98_0 (lk rfl)) rfl ?_
  refine AB.d 5 rfl (by decide +kernel) rfl (Det.ld Try.isAgg22 (lk rfl) (Rd.ow 0 rfl rfl)) rfl ?_
  refine AB.u 6 rfl (by decide +kernel) (Dtu.gtr (lk rfl) (lk rfl)) rfl ?_
  refine AB.u 7 rfl (by decide +kernel) (Dtu.asg (lk rfl)) rfl ?_
  refine AB.done (by decide +kernel) ?_
  refine Then.next ?_
  refine Body.condP (lk rfl) (fun hy => absurd hy (by first | omega | assumption | decide)) (fun _ => ?_)
  refine Body.seq ?_
  refine Body.draw mixed ?_
  refine AB.d 0 rfl (by decide +kernel) rfl (Det.ld Try.isAgg22 (lk rfl) (Rd.ow 1 rfl rfl)) rfl ?_
  refine AB.u 1 rfl (by decide +kernel) (Dtu.mv (lk rfl)) rfl ?_
  refine AB.u 2 rfl (by decide +kernel) (Dtu.nilck (lk rfl)) rfl ?_
  refine AB.u 3 rfl (by decide +kernel) (Dtu.fld fa102_2 (lk rfl)) rfl ?_
  refine AB.u 4 rfl (by decide +kernel) (Dtu.fld fa98_0 (lk rfl)) rfl ?_
  refine AB.d 5 rfl (by decide +kernel) rfl (Det.ld Try.isAgg22 (lk rfl) (Rd.ow 0 rfl rfl)) rfl ?_
  refine AB.u 6 rfl (by decide +kernel) (Dtu.eql (lk rfl) (lk rfl)) rfl ?_
  refine AB.u 7 rfl (by decide +kernel) (Dtu.asg (lk rfl)) rfl ?_
  refine AB.done (by decide +kernel) ?_
  refine Then.next ?_
  refine Body.condP (lk rfl) (fun hy => absurd hy (by first | omega | assumption | decide)) (fun _ => ?_)
  refine Body.skip ?_
  refine Blk.norm ?_
  refine Then.next ?_
  refine Body.seq ?_
  refine Body.region ?_
  refine Ops.u (Dtu.mv (lk rfl)) rfl ?_
  refine Ops.u (Dtu.nilck (lk rfl)) rfl ?_
  refine Ops.u (Dtu.fld fa102_3 (lk rfl)) rfl ?_
  refine Ops.d (Det.ld Try.isAgg100 (lk rfl) (Rd.ow 0 rfl rfl)) rfl ?_
  refine Ops.u (Dtu.mkfC (lks rfl)) rfl ?_
  refine Ops.s (Stp.callOwn [1] rfl rfl Try.call59 (lks rfl) (fun E' le hat => indexA_ok E' (.slice qa l.length qc) l n _ (Sl.mono (by assumption) le)) ?_) rfl
  rintro _ _ ⟨rfl, rfl⟩
  refine Ops.u (Dtu.asg (lk rfl)) rfl ?_
  refine Ops.nil ?_
  refine Then.next ?_
  refine Body.seq ?_
  rw [hi]
  refine Body.seq ?_
  refine Body.region ?_
  refine Ops.u (Dtu.mv (lk rfl)) rfl ?_
  refine Ops.u (Dtu.lss (lk rfl) (lk rfl)) rfl ?_
  refine Ops.nil ?_
  refine Then.next ?_
  refine Body.condP (lk rfl) (fun hy => absurd hy (by first | omega | assumption | decide)) (fun _ => ?_)
  refine Body.skip ?_
  refine Then.next ?_
  refine Body.seq ?_
  refine Body.drawE [] mixed rfl ?_
  rintro E13' le13 -
  have hl_13 := Sl.mono hl le13
  have hdrop_13 := Sl.mono hdrop le13
  refine AE.u 0 rfl (by decide +kernel) (Dtu.mv (lk rfl)) rfl ?_
  refine AE.u 1 rfl (by decide +kernel) (Dtu.mv (lk rfl)) rfl ?_
  refine AE.u 2 rfl (by decide +kernel) (Dtu.mv (lk rfl)) rfl ?_
  refine AE.u 3 rfl (by decide +kernel) (Dtu.nilck (lk rfl)) rfl ?_
  refine AE.u 4 rfl (by decide +kernel) (Dtu.fld fa102_3 (lk rfl)) rfl ?_
  refine AE.u 6 rfl (by decide +kernel) (Dtu.mv (lk rfl)) rfl ?_
  refine AE.u 9 rfl (by decide +kernel) (Dtu.mv (lk rfl)) rfl ?_
  refine AE.u 10 rfl (by decide +kernel) (Dtu.nilck (lk rfl)) rfl ?_
  refine AE.u 11 rfl (by decide +kernel) (Dtu.fld fa102_3 (lk rfl)) rfl ?_
  refine AE.u 13 rfl (by decide +kernel) (Dtu.mv (lk rfl)) rfl ?_
  refine AE.u 14 rfl (by decide +kernel) (Dtu.add (lk rfl) (lk rfl) (w64 (by omega) (by omega))) rfl ?_
  refine AE.more [5, 12] (by decide +kernel) rfl ⟨?_, ?_, trivial⟩
  · refine AEI.d rfl (Det.ld Try.isAgg100 (lk rfl) (Rd.ow 1 rfl rfl)) rfl ?_
    refine AE.u 7 rfl (by decide +kernel) (Dtu.ix (i := (i)) Try.underlying100 Try.sizeOf98 (Sl.up hl_13) (lk rfl) (lk rfl) (by omega) (by omega)) rfl ?_
    refine AE.d 8 rfl (by decide +kernel) (Det.lda Try.isAgg98 Try.sizeOf98 (lk rfl) (Rds.sl (Sl.up hl_13) (gf (sz := 11) (fun _ => rfl) (by omega))) rfl) rfl ?_
    refine AE.more [12] (by decide +kernel) rfl ⟨?_, trivial⟩
    refine AEI.d rfl (Det.ld Try.isAgg100 (lk rfl) (Rd.ow 1 rfl rfl)) rfl ?_
    refine AE.u 15 rfl (by decide +kernel) (Dtu.slL (i + 1) Try.underlying100 Try.sizeOf98 (Sl.up hl_13) (lk rfl) (lk rfl) (by omega) (by omega)) rfl ?_
    refine AE.more [16] (by decide +kernel) rfl ⟨?_, trivial⟩
    refine AEI.s rfl (Stp.call rfl Try.call61 (lks rfl) (fun E' le hat => cloneV_ok E' _ (l.length - (i + 1)) _ (Sl.mono (by assumption) le) h1 (by omega)) ?_) rfl
    rintro _ _ ⟨rfl, ca62, cm62, cc62, rfl⟩
    refine AE.u 17 rfl (by decide +kernel) (Dtu.nilck (lk rfl)) rfl ?_
    refine AE.u 18 rfl (by decide +kernel) (Dtu.fld fa102_2 (lk rfl)) rfl ?_
    refine AE.more [19] (by decide +kernel) rfl ⟨?_, trivial⟩
    refine AEI.e rfl (Stp.store 2 Try.sizeOf98 (lk rfl) (lk rfl) rfl rfl rfl rfl (by exact all_one (by assumption)) rfl rfl ?_)
    refine AE.u 20 rfl (by decide +kernel) (Dtu.nilck (lk rfl)) rfl ?_
    refine AE.u 21 rfl (by decide +kernel) (Dtu.fld fa102_3 (lk rfl)) rfl ?_
    refine AE.more [22] (by decide +kernel) rfl ⟨?_, trivial⟩
    refine AEI.e rfl (Stp.store 2 Try.sizeOf100 (lk rfl) (lk rfl) rfl rfl rfl rfl rfl rfl rfl ?_)
    refine AE.done (by decide +kernel) ?_
    refine Then.next ?_
    refine Body.seq ?_
    refine Body.region ?_
    refine Ops.u (Dtu.asg (lk rfl)) rfl ?_
    refine Ops.nil ?_
    refine Then.next ?_
    refine Body.ret ?_
    exact ⟨.inr rfl, _, pk [2, 0] rfl, _, _, _, rfl, rfl⟩
  · refine AEI.d rfl (Det.ld Try.isAgg100 (lk rfl) (Rd.ow 1 rfl rfl)) rfl ?_
    refine AE.u 15 rfl (by decide +kernel) (Dtu.slL (i + 1) Try.underlying100 Try.sizeOf98 (Sl.up hl_13) (lk rfl) (lk rfl) (by omega) (by omega)) rfl ?_
    refine AE.more [5, 16] (by decide +kernel) rfl ⟨?_, ?_, trivial⟩
    · refine AEI.d rfl (Det.ld Try.isAgg100 (lk rfl) (Rd.ow 1 rfl rfl)) rfl ?_
      refine AE.u 7 rfl (by decide +kernel) (Dtu.ix (i := (i)) Try.underlying100 Try.sizeOf98 (Sl.up hl_13) (lk rfl) (lk rfl) (by omega) (by omega)) rfl ?_
      refine AE.d 8 rfl (by decide +kernel) (Det.lda Try.isAgg98 Try.sizeOf98 (lk rfl) (Rds.sl (Sl.up hl_13) (gf (sz := 11) (fun _ => rfl) (by omega))) rfl) rfl ?_
      refine AE.more [16] (by decide +kernel) rfl ⟨?_, trivial⟩
      refine AEI.s rfl (Stp.call rfl Try.call61 (lks rfl) (fun E' le hat => cloneV_ok E' _ (l.length - (i + 1)) _ (Sl.mono (by assumption) le) h1 (by omega)) ?_) rfl
      rintro _ _ ⟨rfl, ca62, cm62, cc62, rfl⟩
      refine AE.u 17 rfl (by decide +kernel) (Dtu.nilck (lk rfl)) rfl ?_
      refine AE.u 18 rfl (by decide +kernel) (Dtu.fld fa102_2 (lk rfl)) rfl ?_
      refine AE.more [19] (by decide +kernel) rfl ⟨?_, trivial⟩
      refine AEI.e rfl (Stp.store 2 Try.sizeOf98 (lk rfl) (lk rfl) rfl rfl rfl rfl (by exact all_one (by assumption)) rfl rfl ?_)
      refine AE.u 20 rfl (by decide +kernel) (Dtu.nilck (lk rfl)) rfl ?_
      refine AE.u 21 rfl (by decide +kernel) (Dtu.fld fa102_3 (lk rfl)) rfl ?_
      refine AE.more [22] (by decide +kernel) rfl ⟨?_, trivial⟩
      refine AEI.e rfl (Stp.store 2 Try.sizeOf100 (lk rfl) (lk rfl) rfl rfl rfl rfl rfl rfl rfl ?_)
      refine AE.done (by decide +kernel) ?_
      refine Then.next ?_
      refine Body.seq ?_
      refine Body.region ?_
      refine Ops.u (Dtu.asg (lk rfl)) rfl ?_
      refine Ops.nil ?_
      refine Then.next ?_
      refine Body.ret ?_
      exact ⟨.inr rfl, _, pk [2, 0] rfl, _, _, _, rfl, rfl⟩
    · refine AEI.s rfl (Stp.call rfl Try.call61 (lks rfl) (fun E' le hat => cloneV_ok E' _ (l.length - (i + 1)) _ (Sl.mono (by assumption) le) h1 (by omega)) ?_) rfl
      rintro _ _ ⟨rfl, ca62, cm62, cc62, rfl⟩
      refine AE.more [5] (by decide +kernel) rfl ⟨?_, trivial⟩
      refine AEI.d rfl (Det.ld Try.isAgg100 (lk rfl) (Rd.ow 2 rfl rfl)) rfl ?_
      refine AE.u 7 rfl (by decide +kernel) (Dtu.ix (i := (i)) Try.underlying100 Try.sizeOf98 (Sl.up hl_13) (lk rfl) (lk rfl) (by omega) (by omega)) rfl ?_
      refine AE.d 8 rfl (by decide +kernel) (Det.lda Try.isAgg98 Try.sizeOf98 (lk rfl) (Rds.sl (Sl.up hl_13) (gf (sz := 11) (fun _ => rfl) (by omega))) rfl) rfl ?_
      refine AE.u 17 rfl (by decide +kernel) (Dtu.nilck (lk rfl)) rfl ?_
      refine AE.u 18 rfl (by decide +kernel) (Dtu.fld fa102_2 (lk rfl)) rfl ?_
      refine AE.more [19] (by decide +kernel) rfl ⟨?_, trivial⟩
      refine AEI.e rfl (Stp.store 2 Try.sizeOf98 (lk rfl) (lk rfl) rfl rfl rfl rfl (by exact all_one (by assumption)) rfl rfl ?_)
      refine AE.u 20 rfl (by decide +kernel) (Dtu.nilck (lk rfl)) rfl ?_
      refine AE.u 21 rfl (by decide +kernel) (Dtu.fld fa102_3 (lk rfl)) rfl ?_
      refine AE.more [22] (by decide +kernel) rfl ⟨?_, trivial⟩
      refine AEI.e rfl (Stp.store 2 Try.sizeOf100 (lk rfl) (lk rfl) rfl rfl rfl rfl rfl rfl rfl ?_)
      refine AE.done (by decide +kernel) ?_
      refine Then.next ?_
      refine Body.seq ?_
      refine Body.region ?_
      refine Ops.u (Dtu.asg (lk rfl)) rfl ?_
      refine Ops.nil ?_
      refine Then.next ?_
      refine Body.ret ?_
      exact ⟨.inr rfl, _, pk [2, 0] rfl, _, _, _, rfl, rfl⟩
end Go.Proofs.Ytagcpamchgpgiaa
end
section
/- sync: a receiver; Send, Take. -/
namespace Go.Proofs.Ytagcpamchgpgiaa
set_option maxRecDepth 100000
set_option maxHeartbeats 4000000
set_option linter.unusedVariables false
set_option linter.unusedSimpArgs false
open Go.Sx

theorem send_b (E : Env) : Does Try.prog 21 #[] E ([]) fun r H' => ∃ (f : Stt) (_ : f = Stt.first) (g : Stt) (_ : g = Stt.first) (o : Nat) (m1 : Option Addr) (m2 m3 : Nat) (n1 : Option Addr) (n2 n3 : Nat), r = .pointer (some ⟨o, 0, none⟩) ∧ H' = [own o [.bool true, .int .u64 0, .int .i64 f.v.rows, .int .i64 f.v.cols, .slice m1 m2 m3, .int .i64 f.v.row, .int .i64 f.v.col, .bool f.v.vis, .string f.title, .string f.clip, .int .u64 f.clips, .int .u64 f.bells, .int .u64 0, .int .i64 g.v.rows, .int .i64 g.v.cols, .slice n1 n2 n3, .int .i64 g.v.row, .int .i64 g.v.col, .bool g.v.vis, .string g.title, .string g.clip, .int .u64 g.clips, .int .u64 g.bells, .slice none 0 0, .int .u64 0, .int .i64 0] 102, osl 127 4 (.slice m1 m2 m3) f.v.cells.length (f.v.cells.flatMap Cell.enc), osl 127 4 (.slice n1 n2 n3) g.v.cells.length (g.v.cells.flatMap Cell.enc)] := by
  refine Does.go _ _ Try.func21 rfl Try.ntmps21 rfl rfl ?_
  refine Body.seq ?_
  refine Body.region ?_
  refine Ops.u (Dtu.asg (lk rfl)) rfl ?_
  refine Ops.nil ?_
  refine Then.next ?_
  refine Body.seq ?_
  refine Body.region ?_
  refine Ops.s (Stp.call rfl Try.call49 (lks rfl) (fun E' le hat => first_v E') ?_) rfl
  rintro _ _ ⟨nf1, hnf1, ma1, mb1, mc1, rfl, rfl⟩
  refine Ops.s (Stp.call rfl Try.call49 (lks rfl) (fun E' le hat => first_v E') ?_) rfl
  rintro _ _ ⟨nf2, hnf2, ma2, mb2, mc2, rfl, rfl⟩
  refine Ops.u (Dtu.build ty102 pl102 (lkp rfl) rfl rfl) rfl ?_
  refine Ops.s (Stp.box (lk rfl) rfl (fun b4 => ?_)) rfl
  refine Ops.u (Dtu.asg (lk rfl)) rfl ?_
  refine Ops.nil ?_
  refine Then.next ?_
  refine Body.ret ?_
  exact ⟨.inr rfl, _, pk [0, 1, 0] rfl, _, hnf1, _, hnf2, _, _, _, _, _, _, _, rfl, rfl⟩
theorem recv_b (E : Env) : Does Try.prog 22 #[] E ([]) fun r H' => ∃ (f : Stt) (_ : f = Stt.first) (i : Nat) (m1 : Option Addr) (m2 m3 : Nat), r = .pointer (some ⟨i, 0, none⟩) ∧ H' = [own i [.bool true, .int .u64 0, .int .i64 f.v.rows, .int .i64 f.v.cols, .slice m1 m2 m3, .int .i64 f.v.row, .int .i64 f.v.col, .bool f.v.vis, .string f.title, .string f.clip, .int .u64 f.clips, .int .u64 f.bells] 104, osl 127 4 (.slice m1 m2 m3) f.v.cells.length (f.v.cells.flatMap Cell.enc)] := by
  refine Does.go _ _ Try.func22 rfl Try.ntmps22 rfl rfl ?_
  refine Body.seq ?_
  refine Body.region ?_
  refine Ops.u (Dtu.asg (lk rfl)) rfl ?_
  refine Ops.nil ?_
  refine Then.next ?_
  refine Body.seq ?_
  refine Body.region ?_
  refine Ops.s (Stp.call rfl Try.call49 (lks rfl) (fun E' le hat => first_v E') ?_) rfl
  rintro _ _ ⟨nf1, hnf1, ma1, mb1, mc1, rfl, rfl⟩
  refine Ops.u (Dtu.build ty104 pl104 (lkp rfl) rfl rfl) rfl ?_
  refine Ops.s (Stp.box (lk rfl) rfl (fun b3 => ?_)) rfl
  refine Ops.u (Dtu.asg (lk rfl)) rfl ?_
  refine Ops.nil ?_
  refine Then.next ?_
  refine Body.ret ?_
  exact ⟨.inr rfl, _, pk [0, 0] rfl, _, hnf1, _, _, _, _, rfl, rfl⟩
theorem inow_b (E : Env) (i : Nat) (a : Ver) (ha : a.has E) (hc : a.x.v.cells.length ≤ 1000) : Does Try.prog 29 #[.pointer (some ⟨i, 0, none⟩)] E ([own i [.bool true, .int .u64 (a.n : Nat), .int .i64 a.x.v.rows, .int .i64 a.x.v.cols, a.s, .int .i64 a.x.v.row, .int .i64 a.x.v.col, .bool a.x.v.vis, .string a.x.title, .string a.x.clip, .int .u64 a.x.clips, .int .u64 a.x.bells] 104]) fun r H' => ∃ m1 m2 m3, r = .tuple #[.int .u64 (a.n : Nat), .agg #[.int .i64 a.x.v.rows, .int .i64 a.x.v.cols, .slice m1 m2 m3, .int .i64 a.x.v.row, .int .i64 a.x.v.col, .bool a.x.v.vis, .string a.x.title, .string a.x.clip, .int .u64 a.x.clips, .int .u64 a.x.bells]] ∧ H' = [own i [.bool true, .int .u64 (a.n : Nat), .int .i64 a.x.v.rows, .int .i64 a.x.v.cols, a.s, .int .i64 a.x.v.row, .int .i64 a.x.v.col, .bool a.x.v.vis, .string a.x.title, .string a.x.clip, .int .u64 a.x.clips, .int .u64 a.x.bells] 104, osl 127 4 (.slice m1 m2 m3) a.x.v.cells.length (a.x.v.cells.flatMap Cell.enc)] := by
  unfold Ver.has View.has at ha
  refine Does.go _ _ Try.func29 rfl Try.ntmps29 rfl rfl ?_
  refine Body.seq ?_
  refine Body.region ?_
  refine Ops.u (Dtu.asg (lk rfl)) rfl ?_
  refine Ops.s (Stp.alloc ty62 (fun b3 => ?_)) rfl
  refine Ops.nil ?_
  refine Then.next ?_
  refine Body.seq ?_
  refine Body.seq ?_
  refine Body.region ?_
  refine Ops.u (Dtu.mv (lk rfl)) rfl ?_
  refine Ops.u (Dtu.eqNil Try.underlying56 (lk rfl) (lk rfl)) rfl ?_
  refine Ops.u (Dtu.mv (lk rfl)) rfl ?_
  refine Ops.gu rfl rfl rfl (Dtu.mv (lk rfl)) rfl ?_
  refine Ops.gu rfl rfl rfl (Dtu.nilck (lk rfl)) rfl ?_
  refine Ops.gu rfl rfl rfl (Dtu.fld fa104_0 (lk rfl)) rfl ?_
  refine Ops.gd rfl rfl rfl (Det.ld Try.isAgg4 (lk rfl) (Rd.ow 1 rfl rfl)) rfl ?_
  refine Ops.gu rfl rfl rfl (Dtu.not (lk rfl)) rfl ?_
  refine Ops.u (Dtu.pickF (lk rfl) (lk rfl)) rfl ?_
  refine Ops.nil ?_
  refine Then.next ?_
  refine Body.condF (lk rfl) ?_
  refine Body.skip ?_
  refine Then.next ?_
  refine Body.seq ?_
  refine Body.drawE [1] mixed rfl ?_
  rintro E3' le3 ⟨hA3_0, -⟩
  have ha_3 := Sl.mono ha le3
  refine AE.u 0 rfl (by decide +kernel) (Dtu.mv (lk rfl)) rfl ?_
  refine AE.u 1 rfl (by decide +kernel) (Dtu.nilck (lk rfl)) rfl ?_
  refine AE.u 2 rfl (by decide +kernel) (Dtu.fld fa104_1 (lk rfl)) rfl ?_
  refine AE.u 3 rfl (by decide +kernel) (Dtu.fld fa98_0 (lk rfl)) rfl ?_
  refine AE.d 4 rfl (by decide +kernel) (Det.ld Try.isAgg22 (lk rfl) (Rd.env (own_at hA3_0 rfl))) rfl ?_
  refine AE.u 5 rfl (by decide +kernel) (Dtu.mv (lk rfl)) rfl ?_
  refine AE.u 6 rfl (by decide +kernel) (Dtu.nilck (lk rfl)) rfl ?_
  refine AE.u 7 rfl (by decide +kernel) (Dtu.fld fa104_1 (lk rfl)) rfl ?_
  refine AE.u 8 rfl (by decide +kernel) (Dtu.fld fa98_1 (lk rfl)) rfl ?_
  refine AE.d 9 rfl (by decide +kernel) (Det.lda Try.isAgg62 Try.sizeOf62 (lk rfl) (Rds.at (m := 10) hA3_0 rfl) rfl) rfl ?_
  refine AE.more [10] (by decide +kernel) rfl ⟨?_, trivial⟩
  refine AEI.s rfl (Stp.call rfl Try.call52 (lks rfl) (fun E' le hat => copied_ok E' a.x a.s (Sl.mono (by assumption) le) (by omega)) ?_) rfl
  rintro _ _ ⟨ma24, mb24, mc24, rfl, rfl⟩
  refine AE.u 11 rfl (by decide +kernel) (Dtu.asg (lk rfl)) rfl ?_
  refine AE.more [12] (by decide +kernel) rfl ⟨?_, trivial⟩
  refine AEI.e rfl (Stp.store 1 Try.sizeOf62 (lk rfl) (lk rfl) rfl rfl rfl rfl rfl rfl rfl ?_)
  refine AE.done (by decide +kernel) ?_
  refine Then.next ?_
  refine Body.ret ?_
  exact ⟨.inr rfl, _, Loads.agg Try.isAgg62 Try.sizeOf62 (Rds.ow (m := 10) 1 rfl rfl) rfl, _, pk [2, 0] rfl, _, _, _, rfl, rfl⟩
theorem itake_old (E : Env) (i : Nat) (a : Ver) (cb cn : Nat) (d1 : Option Addr) (d2 d3 : Nat) (h : cn ≤ a.n) : Does Try.prog 28 #[.pointer (some ⟨i, 0, none⟩), .agg #[.int .u64 (cb : Nat), .int .u64 (cn : Nat), .slice d1 d2 d3]] E ([own i [.bool true, .int .u64 (a.n : Nat), .int .i64 a.x.v.rows, .int .i64 a.x.v.cols, a.s, .int .i64 a.x.v.row, .int .i64 a.x.v.col, .bool a.x.v.vis, .string a.x.title, .string a.x.clip, .int .u64 a.x.clips, .int .u64 a.x.bells] 104]) fun r H' => r = .int .i64 23 ∧ H' = [own i [.bool true, .int .u64 (a.n : Nat), .int .i64 a.x.v.rows, .int .i64 a.x.v.cols, a.s, .int .i64 a.x.v.row, .int .i64 a.x.v.col, .bool a.x.v.vis, .string a.x.title, .string a.x.clip, .int .u64 a.x.clips, .int .u64 a.x.bells] 104] := by
  refine Does.go _ _ Try.func28 rfl Try.ntmps28 rfl rfl ?_
  refine Body.seq ?_
  refine Body.region ?_
  refine Ops.s (Stp.box (lk rfl) rfl (fun b3 => ?_)) rfl
  refine Ops.u (Dtu.asg (lk rfl)) rfl ?_
  refine Ops.nil ?_
  refine Then.next ?_
  refine Body.seq ?_
  refine Body.block ?_
  refine Body.seq ?_
  refine Body.region ?_
  refine Ops.u (Dtu.mv (lk rfl)) rfl ?_
  refine Ops.u (Dtu.eqNil Try.underlying56 (lk rfl) (lk rfl)) rfl ?_
  refine Ops.u (Dtu.mv (lk rfl)) rfl ?_
  refine Ops.gu rfl rfl rfl (Dtu.mv (lk rfl)) rfl ?_
  refine Ops.gu rfl rfl rfl (Dtu.nilck (lk rfl)) rfl ?_
  refine Ops.gu rfl rfl rfl (Dtu.fld fa104_0 (lk rfl)) rfl ?_
  refine Ops.gd rfl rfl rfl (Det.ld Try.isAgg4 (lk rfl) (Rd.ow 1 rfl rfl)) rfl ?_
  refine Ops.gu rfl rfl rfl (Dtu.not (lk rfl)) rfl ?_
  refine Ops.u (Dtu.pickF (lk rfl) (lk rfl)) rfl ?_
  refine Ops.u (Dtu.asg (lk rfl)) rfl ?_
  refine Ops.nil ?_
  refine Then.next ?_
  refine Body.condF (lk rfl) ?_
  refine Body.seq ?_
  refine Body.draw mixed ?_
  refine AB.u 0 rfl (by decide +kernel) (Dtu.fld fa73_1 (lk rfl)) rfl ?_
  refine AB.d 1 rfl (by decide +kernel) rfl (Det.ld Try.isAgg22 (lk rfl) (Rd.ow 0 rfl rfl)) rfl ?_
  refine AB.u 2 rfl (by decide +kernel) (Dtu.mv (lk rfl)) rfl ?_
  refine AB.u 3 rfl (by decide +kernel) (Dtu.nilck (lk rfl)) rfl ?_
  refine AB.u 4 rfl (by decide +kernel) (Dtu.fld fa104_1 (lk rfl)) rfl ?_
  refine AB.u 5 rfl (by decide +kernel) (Dtu.fld fa98_0 (lk rfl)) rfl ?_
  refine AB.d 6 rfl (by decide +kernel) rfl (Det.ld Try.isAgg22 (lk rfl) (Rd.ow 1 rfl rfl)) rfl ?_
  refine AB.u 7 rfl (by decide +kernel) (Dtu.leq (lk rfl) (lk rfl)) rfl ?_
  refine AB.u 8 rfl (by decide +kernel) (Dtu.asg (lk rfl)) rfl ?_
  refine AB.done (by decide +kernel) ?_
  refine Then.next ?_
  refine Body.condP (lk rfl) (fun _ => ?_) (fun hn => absurd (by first | omega | assumption | decide) hn)
  refine Body.seq ?_
  refine Body.region ?_
  refine Ops.u (Dtu.asg (lk rfl)) rfl ?_
  refine Ops.nil ?_
  refine Then.next ?_
  refine Body.ret ?_
  refine Blk.ret ?_
  refine Then.ret ?_
  exact ⟨.inr rfl, _, pk [1] rfl, rfl, rfl⟩
theorem itake_base (E : Env) (i : Nat) (a : Ver) (cb cn : Nat) (d1 : Option Addr) (d2 d3 : Nat) (h : ¬ cn ≤ a.n) (h1 : cb ≠ 0) (h2 : cb ≠ a.n) : Does Try.prog 28 #[.pointer (some ⟨i, 0, none⟩), .agg #[.int .u64 (cb : Nat), .int .u64 (cn : Nat), .slice d1 d2 d3]] E ([own i [.bool true, .int .u64 (a.n : Nat), .int .i64 a.x.v.rows, .int .i64 a.x.v.cols, a.s, .int .i64 a.x.v.row, .int .i64 a.x.v.col, .bool a.x.v.vis, .string a.x.title, .string a.x.clip, .int .u64 a.x.clips, .int .u64 a.x.bells] 104]) fun r H' => r = .int .i64 30 ∧ H' = [own i [.bool true, .int .u64 (a.n : Nat), .int .i64 a.x.v.rows, .int .i64 a.x.v.cols, a.s, .int .i64 a.x.v.row, .int .i64 a.x.v.col, .bool a.x.v.vis, .string a.x.title, .string a.x.clip, .int .u64 a.x.clips, .int .u64 a.x.bells] 104] := by
  refine Does.go _ _ Try.func28 rfl Try.ntmps28 rfl rfl ?_
  refine Body.seq ?_
  refine Body.region ?_
  refine Ops.s (Stp.box (lk rfl) rfl (fun b3 => ?_)) rfl
  refine Ops.u (Dtu.asg (lk rfl)) rfl ?_
  refine Ops.nil ?_
  refine Then.next ?_
  refine Body.seq ?_
  refine Body.block ?_
  refine Body.seq ?_
  refine Body.region ?_
  refine Ops.u (Dtu.mv (lk rfl)) rfl ?_
  refine Ops.u (Dtu.eqNil Try.underlying56 (lk rfl) (lk rfl)) rfl ?_
  refine Ops.u (Dtu.mv (lk rfl)) rfl ?_
  refine Ops.gu rfl rfl rfl (Dtu.mv (lk rfl)) rfl ?_
  refine Ops.gu rfl rfl rfl (Dtu.nilck (lk rfl)) rfl ?_
  refine Ops.gu rfl rfl rfl (Dtu.fld fa104_0 (lk rfl)) rfl ?_
  refine Ops.gd rfl rfl rfl (Det.ld Try.isAgg4 (lk rfl) (Rd.ow 1 rfl rfl)) rfl ?_
  refine Ops.gu rfl rfl rfl (Dtu.not (lk rfl)) rfl ?_
  refine Ops.u (Dtu.pickF (lk rfl) (lk rfl)) rfl ?_
  refine Ops.u (Dtu.asg (lk rfl)) rfl ?_
  refine Ops.nil ?_
  refine Then.next ?_
  refine Body.condF (lk rfl) ?_
  refine Body.seq ?_
  refine Body.draw mixed ?_
  refine AB.u 0 rfl (by decide +kernel) (Dtu.fld fa73_1 (lk rfl)) rfl ?_
  refine AB.d 1 rfl (by decide +kernel) rfl (Det.ld Try.isAgg22 (lk rfl) (Rd.ow 0 rfl rfl)) rfl ?_
  refine AB.u 2 rfl (by decide +kernel) (Dtu.mv (lk rfl)) rfl ?_
  refine AB.u 3 rfl (by decide +kernel) (Dtu.nilck (lk rfl)) rfl ?_
  refine AB.u 4 rfl (by decide +kernel) (Dtu.fld fa104_1 (lk rfl)) rfl ?_
  refine AB.u 5 rfl (by decide +kernel) (Dtu.fld fa98_0 (lk rfl)) rfl ?_
  refine AB.d 6 rfl (by decide +kernel) rfl (Det.ld Try.isAgg22 (lk rfl) (Rd.ow 1 rfl rfl)) rfl ?_
  refine AB.u 7 rfl (by decide +kernel) (Dtu.leq (lk rfl) (lk rfl)) rfl ?_
  refine AB.u 8 rfl (by decide +kernel) (Dtu.asg (lk rfl)) rfl ?_
  refine AB.done (by decide +kernel) ?_
  refine Then.next ?_
  refine Body.condP (lk rfl) (fun hy => absurd hy (by first | omega | assumption | decide)) (fun _ => ?_)
  refine Body.seq ?_
  refine Body.draw mixed ?_
  refine AB.u 0 rfl (by decide +kernel) (Dtu.fld fa73_0 (lk rfl)) rfl ?_
  refine AB.d 1 rfl (by decide +kernel) rfl (Det.ld Try.isAgg22 (lk rfl) (Rd.ow 0 rfl rfl)) rfl ?_
  refine AB.u 2 rfl (by decide +kernel) (Dtu.neq (lk rfl) (lk rfl)) rfl ?_
  refine AB.u 3 rfl (by decide +kernel) (Dtu.mv (lk rfl)) rfl ?_
  refine AB.decP 31 rfl (fun _ => ?_) (fun hn => absurd (by first | omega | assumption | decide) hn)
  refine AB.gu 4 rfl (by decide +kernel) rfl rfl rfl (Dtu.fld fa73_0 (lk rfl)) rfl ?_
  refine AB.gd 5 rfl (by decide +kernel) rfl rfl rfl rfl (Det.ld Try.isAgg22 (lk rfl) (Rd.ow 0 rfl rfl)) rfl ?_
  refine AB.gu 6 rfl (by decide +kernel) rfl rfl rfl (Dtu.mv (lk rfl)) rfl ?_
  refine AB.gu 7 rfl (by decide +kernel) rfl rfl rfl (Dtu.nilck (lk rfl)) rfl ?_
  refine AB.gu 8 rfl (by decide +kernel) rfl rfl rfl (Dtu.fld fa104_1 (lk rfl)) rfl ?_
  refine AB.gu 9 rfl (by decide +kernel) rfl rfl rfl (Dtu.fld fa98_0 (lk rfl)) rfl ?_
  refine AB.gd 10 rfl (by decide +kernel) rfl rfl rfl rfl (Det.ld Try.isAgg22 (lk rfl) (Rd.ow 1 rfl rfl)) rfl ?_
  refine AB.gu 11 rfl (by decide +kernel) rfl rfl rfl (Dtu.neq (lk rfl) (lk rfl)) rfl ?_
  refine AB.u 12 rfl (by decide +kernel) (Dtu.pickT (lk rfl) (lk rfl)) rfl ?_
  refine AB.u 13 rfl (by decide +kernel) (Dtu.asg (lk rfl)) rfl ?_
  refine AB.done (by decide +kernel) ?_
  refine Then.next ?_
  refine Body.condP (lk rfl) (fun _ => ?_) (fun hn => absurd (by first | omega | assumption | decide) hn)
  refine Body.seq ?_
  refine Body.region ?_
  refine Ops.u (Dtu.asg (lk rfl)) rfl ?_
  refine Ops.nil ?_
  refine Then.next ?_
  refine Body.ret ?_
  refine Blk.ret ?_
  refine Then.ret ?_
  exact ⟨.inr rfl, _, pk [1] rfl, rfl, rfl⟩
theorem sapply_some (E : Env) (a v : Stt) (s b : Value) (bs : List Int) (ha : a.v.has E [] s) (h : Sl E [] 1 b bs.length (bs.map (.int .u8))) (hb : Byt bs) (hmax : bs.length ≤ 100000) (hfl : ∀ c ∈ a.v.cells, c.Fl) (hc : 0 ≤ a.clips) (hbe : 0 ≤ a.bells) (hv : sapplyV a bs = some v) : Does Try.prog 58 #[a.val s, b] E [] fun r H' =>
    ∃ (s1 : Option Addr) (s2 s3 : Nat), r = .tuple #[v.val (.slice s1 s2 s3), .int .i64 0] ∧ H' = [osl 127 4 (.slice s1 s2 s3) v.v.cells.length (v.v.cells.flatMap Cell.enc)] := fun w s0 => by
  have := sapply_ok E a s b bs ha h hb hmax hfl hc hbe
  rw [hv] at this
  refine (this w s0).mono ?_
  rintro e w' ⟨r, H', he, ⟨s, rfl, rfl⟩, st⟩
  obtain ⟨a1, c1, rfl⟩ := Sl.shape (Sl.osl 0 rfl) w' st
  exact ⟨_, _, he, ⟨_, _, _, rfl, rfl⟩, st⟩
theorem itake_at (E : Env) (i : Nat) (a : Ver) (cb cn : Nat) (d1 : Option Addr) (d2 d3 : Nat) (x : Stt) (bs : List Int) (h : ¬ cn ≤ a.n) (hd : Sl E [] 1 (.slice d1 d2 d3) bs.length (bs.map (.int .u8))) (hb : Byt bs) (hmax : bs.length ≤ 100000) (ha : a.has E) (h1 : cb = a.n) (h2 : cb ≠ 0) (hfl : ∀ c ∈ a.x.v.cells, c.Fl) (hc : 0 ≤ a.x.clips) (hbe : 0 ≤ a.x.bells) (hv : sapplyV a.x bs = some x) : Does Try.prog 28 #[.pointer (some ⟨i, 0, none⟩), .agg #[.int .u64 (cb : Nat), .int .u64 (cn : Nat), .slice d1 d2 d3]] E ([own i [.bool true, .int .u64 (a.n : Nat), .int .i64 a.x.v.rows, .int .i64 a.x.v.cols, a.s, .int .i64 a.x.v.row, .int .i64 a.x.v.col, .bool a.x.v.vis, .string a.x.title, .string a.x.clip, .int .u64 a.x.clips, .int .u64 a.x.bells] 104]) fun r H' => ∃ m1 m2 m3, r = .int .i64 0 ∧ H' = [own i [.bool true, .int .u64 (cn : Nat), .int .i64 x.v.rows, .int .i64 x.v.cols, .slice m1 m2 m3, .int .i64 x.v.row, .int .i64 x.v.col, .bool x.v.vis, .string x.title, .string x.clip, .int .u64 x.clips, .int .u64 x.bells] 104, osl 127 4 (.slice m1 m2 m3) x.v.cells.length (x.v.cells.flatMap Cell.enc)] := by
  unfold Ver.has View.has at ha
  obtain ⟨an, ax, as0⟩ := a
  dsimp only at *
  refine Does.pure (Sl.isSl (Sl.up ha)) fun hs => ?_
  obtain ⟨sa, sm, sc, rfl⟩ := hs
  refine Does.go _ _ Try.func28 rfl Try.ntmps28 rfl rfl ?_
  refine Body.seq ?_
  refine Body.region ?_
  refine Ops.s (Stp.box (lk rfl) rfl (fun b3 => ?_)) rfl
  refine Ops.u (Dtu.asg (lk rfl)) rfl ?_
  refine Ops.nil ?_
  refine Then.next ?_
  refine Body.seq ?_
  refine Body.block ?_
  refine Body.seq ?_
  refine Body.region ?_
  refine Ops.u (Dtu.mv (lk rfl)) rfl ?_
  refine Ops.u (Dtu.eqNil Try.underlying56 (lk rfl) (lk rfl)) rfl ?_
  refine Ops.u (Dtu.mv (lk rfl)) rfl ?_
  refine Ops.gu rfl rfl rfl (Dtu.mv (lk rfl)) rfl ?_
  refine Ops.gu rfl rfl rfl (Dtu.nilck (lk rfl)) rfl ?_
  refine Ops.gu rfl rfl rfl (Dtu.fld fa104_0 (lk rfl)) rfl ?_
  refine Ops.gd rfl rfl rfl (Det.ld Try.isAgg4 (lk rfl) (Rd.ow 1 rfl rfl)) rfl ?_
  refine Ops.gu rfl rfl rfl (Dtu.not (lk rfl)) rfl ?_
  refine Ops.u (Dtu.pickF (lk rfl) (lk rfl)) rfl ?_
  refine Ops.u (Dtu.asg (lk rfl)) rfl ?_
  refine Ops.nil ?_
  refine Then.next ?_
  refine Body.condF (lk rfl) ?_
  refine Body.seq ?_
  refine Body.draw mixed ?_
  refine AB.u 0 rfl (by decide +kernel) (Dtu.fld fa73_1 (lk rfl)) rfl ?_
  refine AB.d 1 rfl (by decide +kernel) rfl (Det.ld Try.isAgg22 (lk rfl) (Rd.ow 0 rfl rfl)) rfl ?_
  refine AB.u 2 rfl (by decide +kernel) (Dtu.mv (lk rfl)) rfl ?_
  refine AB.u 3 rfl (by decide +kernel) (Dtu.nilck (lk rfl)) rfl ?_
  refine AB.u 4 rfl (by decide +kernel) (Dtu.fld fa104_1 (lk rfl)) rfl ?_
  refine AB.u 5 rfl (by decide +kernel) (Dtu.fld fa98_0 (lk rfl)) rfl ?_
  refine AB.d 6 rfl (by decide +kernel) rfl (Det.ld Try.isAgg22 (lk rfl) (Rd.ow 1 rfl rfl)) rfl ?_
  refine AB.u 7 rfl (by decide +kernel) (Dtu.leq (lk rfl) (lk rfl)) rfl ?_
  refine AB.u 8 rfl (by decide +kernel) (Dtu.asg (lk rfl)) rfl ?_
  refine AB.done (by decide +kernel) ?_
  refine Then.next ?_
  refine Body.condP (lk rfl) (fun hy => absurd hy (by first | omega | assumption | decide)) (fun _ => ?_)
  refine Body.seq ?_
  refine Body.draw mixed ?_
  refine AB.u 0 rfl (by decide +kernel) (Dtu.fld fa73_0 (lk rfl)) rfl ?_
  refine AB.d 1 rfl (by decide +kernel) rfl (Det.ld Try.isAgg22 (lk rfl) (Rd.ow 0 rfl rfl)) rfl ?_
  refine AB.u 2 rfl (by decide +kernel) (Dtu.neq (lk rfl) (lk rfl)) rfl ?_
  refine AB.u 3 rfl (by decide +kernel) (Dtu.mv (lk rfl)) rfl ?_
  refine AB.decP 31 rfl (fun _ => ?_) (fun hn => absurd (by first | omega | assumption | decide) hn)
  refine AB.gu 4 rfl (by decide +kernel) rfl rfl rfl (Dtu.fld fa73_0 (lk rfl)) rfl ?_
  refine AB.gd 5 rfl (by decide +kernel) rfl rfl rfl rfl (Det.ld Try.isAgg22 (lk rfl) (Rd.ow 0 rfl rfl)) rfl ?_
  refine AB.gu 6 rfl (by decide +kernel) rfl rfl rfl (Dtu.mv (lk rfl)) rfl ?_
  refine AB.gu 7 rfl (by decide +kernel) rfl rfl rfl (Dtu.nilck (lk rfl)) rfl ?_
  refine AB.gu 8 rfl (by decide +kernel) rfl rfl rfl (Dtu.fld fa104_1 (lk rfl)) rfl ?_
  refine AB.gu 9 rfl (by decide +kernel) rfl rfl rfl (Dtu.fld fa98_0 (lk rfl)) rfl ?_
  refine AB.gd 10 rfl (by decide +kernel) rfl rfl rfl rfl (Det.ld Try.isAgg22 (lk rfl) (Rd.ow 1 rfl rfl)) rfl ?_
  refine AB.gu 11 rfl (by decide +kernel) rfl rfl rfl (Dtu.neq (lk rfl) (lk rfl)) rfl ?_
  refine AB.u 12 rfl (by decide +kernel) (Dtu.pickT (lk rfl) (lk rfl)) rfl ?_
  refine AB.u 13 rfl (by decide +kernel) (Dtu.asg (lk rfl)) rfl ?_
  refine AB.done (by decide +kernel) ?_
  refine Then.next ?_
  refine Body.condP (lk rfl) (fun hy => absurd hy (by first | omega | assumption | decide)) (fun _ => ?_)
  refine Body.skip ?_
  refine Blk.norm ?_
  refine Then.next ?_
  refine Body.seq ?_
  refine Body.region ?_
  refine Ops.u (Dtu.mv (lk rfl)) rfl ?_
  refine Ops.u (Dtu.nilck (lk rfl)) rfl ?_
  refine Ops.u (Dtu.fld fa104_1 (lk rfl)) rfl ?_
  refine Ops.u (Dtu.fld fa98_1 (lk rfl)) rfl ?_
  refine Ops.d (Det.lda Try.isAgg62 Try.sizeOf62 (lk rfl) (Rds.ow (m := 10) 1 rfl rfl) rfl) rfl ?_
  refine Ops.s (Stp.alloc ty62 (fun b5 => ?_)) rfl
  refine Ops.e (Stp.store 0 Try.sizeOf62 (lk rfl) (lk rfl) rfl rfl rfl rfl rfl rfl rfl ?_)
  refine Ops.nil ?_
  refine Then.next ?_
  refine Body.seq ?_
  refine Body.seq ?_
  refine Body.region ?_
  refine Ops.u (Dtu.fld fa73_0 (lk rfl)) rfl ?_
  refine Ops.d (Det.ld Try.isAgg22 (lk rfl) (Rd.ow 1 rfl rfl)) rfl ?_
  refine Ops.u (Dtu.eql (lk rfl) (lk rfl)) rfl ?_
  refine Ops.nil ?_
  refine Then.next ?_
  refine Body.condP (lk rfl) (fun hy => absurd hy (by first | omega | assumption | decide)) (fun _ => ?_)
  refine Body.skip ?_
  refine Then.next ?_
  refine Body.seq ?_
  refine Body.region ?_
  refine Ops.d (Det.lda Try.isAgg62 Try.sizeOf62 (lk rfl) (Rds.ow (m := 10) 0 rfl rfl) rfl) rfl ?_
  refine Ops.u (Dtu.fld fa73_2 (lk rfl)) rfl ?_
  refine Ops.d (Det.ld Try.isAgg23 (lk rfl) (Rd.ow 1 rfl rfl)) rfl ?_
  refine Ops.s (Stp.call rfl Try.call58 (lks rfl) (fun E' le hat => sapply_some E' ax x (.slice sa sm sc) (.slice d1 d2 d3) bs (Sl.mono (by assumption) le) (Sl.mono (by assumption) le) hb hmax hfl hc hbe hv) ?_) rfl
  rintro _ _ ⟨as54, am54, ac54, rfl, rfl⟩
  refine Ops.u (Dtu.mv (lk rfl)) rfl ?_
  refine Ops.u (Dtu.ext (lk rfl) rfl) rfl ?_
  refine Ops.u (Dtu.ext (lk rfl) rfl) rfl ?_
  refine Ops.s (Stp.alloc ty62 (fun b6 => ?_)) rfl
  refine Ops.e (Stp.store 0 Try.sizeOf62 (lk rfl) (lk rfl) rfl rfl rfl rfl rfl rfl rfl ?_)
  refine Ops.u (Dtu.asg (lk rfl)) rfl ?_
  refine Ops.nil ?_
  refine Then.next ?_
  refine Body.seq ?_
  refine Body.seq ?_
  refine Body.region ?_
  refine Ops.u (Dtu.mv (lk rfl)) rfl ?_
  refine Ops.u (Dtu.neq (lk rfl) (lk rfl)) rfl ?_
  refine Ops.nil ?_
  refine Then.next ?_
  refine Body.condP (lk rfl) (fun hy => absurd hy (by first | omega | assumption | decide)) (fun _ => ?_)
  refine Body.skip ?_
  refine Then.next ?_
  refine Body.seq ?_
  refine Body.region ?_
  refine Ops.u (Dtu.mv (lk rfl)) rfl ?_
  refine Ops.u (Dtu.fld fa73_1 (lk rfl)) rfl ?_
  refine Ops.d (Det.ld Try.isAgg22 (lk rfl) (Rd.ow 3 rfl rfl)) rfl ?_
  refine Ops.d (Det.lda Try.isAgg62 Try.sizeOf62 (lk rfl) (Rds.ow (m := 10) 0 rfl rfl) rfl) rfl ?_
  refine Ops.u (Dtu.build ty98 pl98 (lkp rfl) rfl rfl) rfl ?_
  refine Ops.u (Dtu.nilck (lk rfl)) rfl ?_
  refine Ops.u (Dtu.fld fa104_1 (lk rfl)) rfl ?_
  refine Ops.e (Stp.store 4 Try.sizeOf98 (lk rfl) (lk rfl) rfl rfl rfl rfl rfl rfl rfl ?_)
  refine Ops.nil ?_
  refine Then.next ?_
  refine Body.seq ?_
  refine Body.region ?_
  refine Ops.u (Dtu.asg (lk rfl)) rfl ?_
  refine Ops.nil ?_
  refine Then.next ?_
  refine Body.ret ?_
  exact ⟨.inr rfl, _, pk [4, 1] rfl, _, _, _, rfl, rfl⟩
theorem firstS_fl : ∀ c ∈ Stt.first.v.cells, c.Fl := first_fl
theorem itake_first (E : Env) (i : Nat) (a : Ver) (cb cn : Nat) (d1 : Option Addr) (d2 d3 : Nat) (x : Stt) (bs : List Int) (h : ¬ cn ≤ a.n) (hd : Sl E [] 1 (.slice d1 d2 d3) bs.length (bs.map (.int .u8))) (hb : Byt bs) (hmax : bs.length ≤ 100000) (ha : a.has E) (h2 : cb = 0) (hv : sapplyV Stt.first bs = some x) : Does Try.prog 28 #[.pointer (some ⟨i, 0, none⟩), .agg #[.int .u64 (cb : Nat), .int .u64 (cn : Nat), .slice d1 d2 d3]] E ([own i [.bool true, .int .u64 (a.n : Nat), .int .i64 a.x.v.rows, .int .i64 a.x.v.cols, a.s, .int .i64 a.x.v.row, .int .i64 a.x.v.col, .bool a.x.v.vis, .string a.x.title, .string a.x.clip, .int .u64 a.x.clips, .int .u64 a.x.bells] 104]) fun r H' => ∃ m1 m2 m3, r = .int .i64 0 ∧ H' = [own i [.bool true, .int .u64 (cn : Nat), .int .i64 x.v.rows, .int .i64 x.v.cols, .slice m1 m2 m3, .int .i64 x.v.row, .int .i64 x.v.col, .bool x.v.vis, .string x.title, .string x.clip, .int .u64 x.clips, .int .u64 x.bells] 104, osl 127 4 (.slice m1 m2 m3) x.v.cells.length (x.v.cells.flatMap Cell.enc)] := by
  unfold Ver.has View.has at ha
  obtain ⟨an, ax, as0⟩ := a
  dsimp only at *
  refine Does.pure (Sl.isSl (Sl.up ha)) fun hs => ?_
  obtain ⟨sa, sm, sc, rfl⟩ := hs
  refine Does.go _ _ Try.func28 rfl Try.ntmps28 rfl rfl ?_
  refine Body.seq ?_
  refine Body.region ?_
  refine Ops.s (Stp.box (lk rfl) rfl (fun b3 => ?_)) rfl
  refine Ops.u (Dtu.asg (lk rfl)) rfl ?_
  refine Ops.nil ?_
  refine Then.next ?_
  refine Body.seq ?_
  refine Body.block ?_
  refine Body.seq ?_
  refine Body.region ?_
  refine Ops.u (Dtu.mv (lk rfl)) rfl ?_
  refine Ops.u (Dtu.eqNil Try.underlying56 (lk rfl) (lk rfl)) rfl ?_
  refine Ops.u (Dtu.mv (lk rfl)) rfl ?_
  refine Ops.gu rfl rfl rfl (Dtu.mv (lk rfl)) rfl ?_
  refine Ops.gu rfl rfl rfl (Dtu.nilck (lk rfl)) rfl ?_
  refine Ops.gu rfl rfl rfl (Dtu.fld fa104_0 (lk rfl)) rfl ?_
  refine Ops.gd rfl rfl rfl (Det.ld Try.isAgg4 (lk rfl) (Rd.ow 1 rfl rfl)) rfl ?_
  refine Ops.gu rfl rfl rfl (Dtu.not (lk rfl)) rfl ?_
  refine Ops.u (Dtu.pickF (lk rfl) (lk rfl)) rfl ?_
  refine Ops.u (Dtu.asg (lk rfl)) rfl ?_
  refine Ops.nil ?_
  refine Then.next ?_
  refine Body.condF (lk rfl) ?_
  refine Body.seq ?_
  refine Body.draw mixed ?_
  refine AB.u 0 rfl (by decide +kernel) (Dtu.fld fa73_1 (lk rfl)) rfl ?_
  refine AB.d 1 rfl (by decide +kernel) rfl (Det.ld Try.isAgg22 (lk rfl) (Rd.ow 0 rfl rfl)) rfl ?_
  refine AB.u 2 rfl (by decide +kernel) (Dtu.mv (lk rfl)) rfl ?_
  refine AB.u 3 rfl (by decide +kernel) (Dtu.nilck (lk rfl)) rfl ?_
  refine AB.u 4 rfl (by decide +kernel) (Dtu.fld fa104_1 (lk rfl)) rfl ?_
  refine AB.u 5 rfl (by decide +kernel) (Dtu.fld fa98_0 (lk rfl)) rfl ?_
  refine AB.d 6 rfl (by decide +kernel) rfl (Det.ld Try.isAgg22 (lk rfl) (Rd.ow 1 rfl rfl)) rfl ?_
  refine AB.u 7 rfl (by decide +kernel) (Dtu.leq (lk rfl) (lk rfl)) rfl ?_
  refine AB.u 8 rfl (by decide +kernel) (Dtu.asg (lk rfl)) rfl ?_
  refine AB.done (by decide +kernel) ?_
  refine Then.next ?_
  refine Body.condP (lk rfl) (fun hy => absurd hy (by first | omega | assumption | decide)) (fun _ => ?_)
  refine Body.seq ?_
  refine Body.draw mixed ?_
  refine AB.u 0 rfl (by decide +kernel) (Dtu.fld fa73_0 (lk rfl)) rfl ?_
  refine AB.d 1 rfl (by decide +kernel) rfl (Det.ld Try.isAgg22 (lk rfl) (Rd.ow 0 rfl rfl)) rfl ?_
  refine AB.u 2 rfl (by decide +kernel) (Dtu.neq (lk rfl) (lk rfl)) rfl ?_
  refine AB.u 3 rfl (by decide +kernel) (Dtu.mv (lk rfl)) rfl ?_
  refine AB.decP 31 rfl (fun hy => absurd hy (by first | omega | assumption | decide)) (fun _ => ?_)
  refine AB.gn 4 rfl (by decide +kernel) rfl rfl rfl rfl rfl ?_
  refine AB.gn 5 rfl (by decide +kernel) rfl rfl rfl rfl rfl ?_
  refine AB.gn 6 rfl (by decide +kernel) rfl rfl rfl rfl rfl ?_
  refine AB.gn 7 rfl (by decide +kernel) rfl rfl rfl rfl rfl ?_
  refine AB.gn 8 rfl (by decide +kernel) rfl rfl rfl rfl rfl ?_
  refine AB.gn 9 rfl (by decide +kernel) rfl rfl rfl rfl rfl ?_
  refine AB.gn 10 rfl (by decide +kernel) rfl rfl rfl rfl rfl ?_
  refine AB.gn 11 rfl (by decide +kernel) rfl rfl rfl rfl rfl ?_
  refine AB.u 12 rfl (by decide +kernel) (Dtu.pickF (lk rfl) (lk rfl)) rfl ?_
  refine AB.u 13 rfl (by decide +kernel) (Dtu.asg (lk rfl)) rfl ?_
  refine AB.done (by decide +kernel) ?_
  refine Then.next ?_
  refine Body.condF (lk rfl) ?_
  refine Body.skip ?_
  refine Blk.norm ?_
  refine Then.next ?_
  refine Body.seq ?_
  refine Body.region ?_
  refine Ops.u (Dtu.mv (lk rfl)) rfl ?_
  refine Ops.u (Dtu.nilck (lk rfl)) rfl ?_
  refine Ops.u (Dtu.fld fa104_1 (lk rfl)) rfl ?_
  refine Ops.u (Dtu.fld fa98_1 (lk rfl)) rfl ?_
  refine Ops.d (Det.lda Try.isAgg62 Try.sizeOf62 (lk rfl) (Rds.ow (m := 10) 1 rfl rfl) rfl) rfl ?_
  refine Ops.s (Stp.alloc ty62 (fun b5 => ?_)) rfl
  refine Ops.e (Stp.store 0 Try.sizeOf62 (lk rfl) (lk rfl) rfl rfl rfl rfl rfl rfl rfl ?_)
  refine Ops.nil ?_
  refine Then.next ?_
  refine Body.seq ?_
  refine Body.seq ?_
  refine Body.region ?_
  refine Ops.u (Dtu.fld fa73_0 (lk rfl)) rfl ?_
  refine Ops.d (Det.ld Try.isAgg22 (lk rfl) (Rd.ow 1 rfl rfl)) rfl ?_
  refine Ops.u (Dtu.eql (lk rfl) (lk rfl)) rfl ?_
  refine Ops.nil ?_
  refine Then.next ?_
  refine Body.condP (lk rfl) (fun _ => ?_) (fun hn => absurd (by first | omega | assumption | decide) hn)
  refine Body.region ?_
  refine Ops.s (Stp.call rfl Try.call23 (lks rfl) (fun E' le hat => sfirstG_ok E') ?_) rfl
  rintro _ _ ⟨f49, fe49, fa49, fm49, fc49, rfl, rfl⟩
  refine Ops.e (Stp.store 1 Try.sizeOf62 (lk rfl) (lk rfl) rfl rfl rfl rfl rfl rfl rfl ?_)
  refine Ops.nil ?_
  refine Then.next ?_
  refine Body.seq ?_
  refine Body.region ?_
  refine Ops.d (Det.lda Try.isAgg62 Try.sizeOf62 (lk rfl) (Rds.ow (m := 10) 1 rfl rfl) rfl) rfl ?_
  refine Ops.u (Dtu.fld fa73_2 (lk rfl)) rfl ?_
  refine Ops.d (Det.ld Try.isAgg23 (lk rfl) (Rd.ow 2 rfl rfl)) rfl ?_
  refine Ops.s (Stp.call rfl Try.call58 (lks rfl) (fun E' le hat => sapply_some E' f49 x (.slice fa49 fm49 fc49) (.slice d1 d2 d3) bs (by first | exact Sl.hatI hat 0 rfl | exact Sl.hatI hat 1 rfl | exact Sl.hatI hat 2 rfl | exact Sl.hatI hat 3 rfl) (Sl.mono (by assumption) le) hb hmax (by rw [fe49]; exact firstS_fl) (by rw [fe49]; decide) (by rw [fe49]; decide) (by rw [fe49]; exact hv)) ?_) rfl
  rintro _ _ ⟨as54, am54, ac54, rfl, rfl⟩
  refine Ops.u (Dtu.mv (lk rfl)) rfl ?_
  refine Ops.u (Dtu.ext (lk rfl) rfl) rfl ?_
  refine Ops.u (Dtu.ext (lk rfl) rfl) rfl ?_
  refine Ops.s (Stp.alloc ty62 (fun b6 => ?_)) rfl
  refine Ops.e (Stp.store 0 Try.sizeOf62 (lk rfl) (lk rfl) rfl rfl rfl rfl rfl rfl rfl ?_)
  refine Ops.u (Dtu.asg (lk rfl)) rfl ?_
  refine Ops.nil ?_
  refine Then.next ?_
  refine Body.seq ?_
  refine Body.seq ?_
  refine Body.region ?_
  refine Ops.u (Dtu.mv (lk rfl)) rfl ?_
  refine Ops.u (Dtu.neq (lk rfl) (lk rfl)) rfl ?_
  refine Ops.nil ?_
  refine Then.next ?_
  refine Body.condP (lk rfl) (fun hy => absurd hy (by first | omega | assumption | decide)) (fun _ => ?_)
  refine Body.skip ?_
  refine Then.next ?_
  refine Body.seq ?_
  refine Body.region ?_
  refine Ops.u (Dtu.mv (lk rfl)) rfl ?_
  refine Ops.u (Dtu.fld fa73_1 (lk rfl)) rfl ?_
  refine Ops.d (Det.ld Try.isAgg22 (lk rfl) (Rd.ow 4 rfl rfl)) rfl ?_
  refine Ops.d (Det.lda Try.isAgg62 Try.sizeOf62 (lk rfl) (Rds.ow (m := 10) 0 rfl rfl) rfl) rfl ?_
  refine Ops.u (Dtu.build ty98 pl98 (lkp rfl) rfl rfl) rfl ?_
  refine Ops.u (Dtu.nilck (lk rfl)) rfl ?_
  refine Ops.u (Dtu.fld fa104_1 (lk rfl)) rfl ?_
  refine Ops.e (Stp.store 5 Try.sizeOf98 (lk rfl) (lk rfl) rfl rfl rfl rfl rfl rfl rfl ?_)
  refine Ops.nil ?_
  refine Then.next ?_
  refine Body.seq ?_
  refine Body.region ?_
  refine Ops.u (Dtu.asg (lk rfl)) rfl ?_
  refine Ops.nil ?_
  refine Then.next ?_
  refine Body.ret ?_
  exact ⟨.inr rfl, _, pk [5, 1] rfl, _, _, _, rfl, rfl⟩
end Go.Proofs.Ytagcpamchgpgiaa
end
section
/- sync: a sender and a receiver as one thing each. -/
namespace Go.Proofs.Ytagcpamchgpgiaa
set_option maxRecDepth 100000
set_option maxHeartbeats 4000000
set_option linter.unusedVariables false
set_option linter.unusedSimpArgs false
open Go.Sx

structure Ov where
  n : Nat
  x : Stt
instance : Inhabited Ov := ⟨⟨0, Stt.first⟩⟩
def Ver.ov (v : Ver) : Ov := ⟨v.n, v.x⟩
def Ov.ver (v : Ov) (s : Value) : Ver := ⟨v.n, v.x, s⟩
structure Ot where
  a : Ov
  b : Ov
  l : List Ov
  last : Nat
  whn : Int
def Rdv (L : List HProp) (v : Ver) : Prop := ∀ E, (∀ A ∈ L, At A E) → v.has E
def Rdl (L : List HProp) (qa : Option Addr) (qc : Nat) (l : List Ver) : Prop := ∀ E, (∀ A ∈ L, At A E) → Sl E [] 11 (.slice qa l.length qc) l.length (l.flatMap Ver.enc)
theorem Rdv.mono {L M : List HProp} {v : Ver} (h : Rdv L v) (hs : ∀ A ∈ L, A ∈ M) : Rdv M v := fun E hA => h E fun A hm => hA A (hs A hm)
theorem Rdl.mono {L M : List HProp} {qa : Option Addr} {qc : Nat} {l : List Ver} (h : Rdl L qa qc l) (hs : ∀ A ∈ L, A ∈ M) : Rdl M qa qc l := fun E hA => h E fun A hm => hA A (hs A hm)
theorem Rdv.new {L : List HProp} {n : Nat} {x : Stt} {s : Value} (hm : osl 127 4 s x.v.cells.length (x.v.cells.flatMap Cell.enc) ∈ L) : Rdv L ⟨n, x, s⟩ := fun E hA => Sl.at (hA _ hm)
theorem Rdl.nil {L : List HProp} : Rdl L none 0 [] := fun E hA => Sl.nil
theorem at_many {L : List HProp} {E : Env} (h : At (many L) E) : ∀ A ∈ L, At A E := by
  obtain ⟨x, hx, le⟩ := h
  have : ∀ (H : List HProp) (h : Hp) (A : HProp), Sat H h → A ∈ H → ∃ y, A y ∧ y.Le h := by
    intro H
    induction H with
    | nil => intro h A _ hm; cases hm
    | cons B H ih =>
      intro h A hs hm
      obtain ⟨h1, h2, a, b, c, rfl⟩ := hs
      rcases List.mem_cons.1 hm with rfl | hm
      · exact ⟨h1, a, Hp.le_union_left _ _⟩
      · obtain ⟨y, hy, l⟩ := ih h2 A b hm
        exact ⟨y, hy, l.trans (Hp.le_union_right c)⟩
  intro A hA
  obtain ⟨y, hy, l⟩ := this L x A hx hA
  exact ⟨y, hy, l.trans le⟩
theorem manyCons {E : Env} {A : HProp} {L H : List HProp} {w : World} (s : St E (A :: many L :: H) w) : St E (many (A :: L) :: H) w := many_iff.2 (by
  have s1 : St E (L ++ (A :: H)) w := many_iff.1 (s.perm (List.Perm.swap _ _ _))
  exact s1.perm List.perm_middle)
section
variable {P : Program} {g : FuncId} {args : Array Value} {E : Env} {H : List HProp} {Q Q' : Value → List HProp → Prop}
theorem Does.pst (h : Does P g args E H Q) (k : ∀ v H', Q v H' → ∃ H2, (∀ w, St E H' w → St E H2 w) ∧ Q' v H2) : Does P g args E H Q' := fun w s =>
  (h w s).mono fun _ _ ⟨v, H', e, q, s'⟩ => let ⟨H2, hs, q'⟩ := k v H' q; ⟨v, H2, e, q', hs _ s'⟩
theorem Does.frm {Hc Hf : List HProp} (h : ∀ E', E.Le E' → (∀ A ∈ Hf, At A E') → Does P g args E' Hc Q) : Does P g args E (Hc ++ Hf) fun v H' => ∃ A, Q v A ∧ H' = A ++ Hf := fun w s => by
  obtain ⟨E', le, hat, s1, back⟩ := s.frame
  refine (h E' le hat w s1).mono ?_
  rintro e w' ⟨v, A, rfl, q, s'⟩
  exact ⟨v, A ++ Hf, rfl, ⟨A, q, rfl⟩, back A w' s'⟩
end
structure OutI (O : Ot) (s0 s1 : Value) (qa : Option Addr) (l : List Ver) (qc : Nat) (L : List HProp) : Prop where
  i0 : IsSl s0
  hl : l.map Ver.ov = O.l
  ra : Rdv L (O.a.ver s0)
  rb : Rdv L (O.b.ver s1)
  rl : Rdl L qa qc l
  rv : ∀ v ∈ l, Rdv L v
  sl : ∀ v ∈ l, IsSl v.s
def outP (o : Nat) (O : Ot) : HProp := fun h => ∃ s0 s1 qa l qc L, OutI O s0 s1 qa l qc L ∧ Sat [own o [.bool true, .int .u64 (O.a.n : Nat), .int .i64 O.a.x.v.rows, .int .i64 O.a.x.v.cols, s0, .int .i64 O.a.x.v.row, .int .i64 O.a.x.v.col, .bool O.a.x.v.vis, .string O.a.x.title, .string O.a.x.clip, .int .u64 O.a.x.clips, .int .u64 O.a.x.bells, .int .u64 (O.b.n : Nat), .int .i64 O.b.x.v.rows, .int .i64 O.b.x.v.cols, s1, .int .i64 O.b.x.v.row, .int .i64 O.b.x.v.col, .bool O.b.x.v.vis, .string O.b.x.title, .string O.b.x.clip, .int .u64 O.b.x.clips, .int .u64 O.b.x.bells, .slice qa l.length qc, .int .u64 (O.last : Nat), .int .i64 O.whn] 102, many L] h
theorem outP_out {E : Env} {o : Nat} {O : Ot} {H : List HProp} {w : World} (s : St E (outP o O :: H) w) : ∃ s0 s1 qa l qc L, OutI O s0 s1 qa l qc L ∧ St E (own o [.bool true, .int .u64 (O.a.n : Nat), .int .i64 O.a.x.v.rows, .int .i64 O.a.x.v.cols, s0, .int .i64 O.a.x.v.row, .int .i64 O.a.x.v.col, .bool O.a.x.v.vis, .string O.a.x.title, .string O.a.x.clip, .int .u64 O.a.x.clips, .int .u64 O.a.x.bells, .int .u64 (O.b.n : Nat), .int .i64 O.b.x.v.rows, .int .i64 O.b.x.v.cols, s1, .int .i64 O.b.x.v.row, .int .i64 O.b.x.v.col, .bool O.b.x.v.vis, .string O.b.x.title, .string O.b.x.clip, .int .u64 O.b.x.clips, .int .u64 O.b.x.bells, .slice qa l.length qc, .int .u64 (O.last : Nat), .int .i64 O.whn] 102 :: many L :: H) w := by
  obtain ⟨h, ⟨h1, h2, ⟨s0, s1, qa, l, qc, L, hi, s1'⟩, s2, d, rfl⟩, dE, lh⟩ := s.has
  exact ⟨s0, s1, qa, l, qc, L, hi, ⟨_, Sat.append.2 ⟨h1, h2, s1', s2, d, rfl⟩, dE, lh⟩, s.keep, s.os, s.tape, s.output⟩
theorem outP_in {E : Env} {o : Nat} {O : Ot} {H : List HProp} {w : World} {s0 s1 : Value} {qa : Option Addr} {l : List Ver} {qc : Nat} {L : List HProp} (hi : OutI O s0 s1 qa l qc L) (s : St E (own o [.bool true, .int .u64 (O.a.n : Nat), .int .i64 O.a.x.v.rows, .int .i64 O.a.x.v.cols, s0, .int .i64 O.a.x.v.row, .int .i64 O.a.x.v.col, .bool O.a.x.v.vis, .string O.a.x.title, .string O.a.x.clip, .int .u64 O.a.x.clips, .int .u64 O.a.x.bells, .int .u64 (O.b.n : Nat), .int .i64 O.b.x.v.rows, .int .i64 O.b.x.v.cols, s1, .int .i64 O.b.x.v.row, .int .i64 O.b.x.v.col, .bool O.b.x.v.vis, .string O.b.x.title, .string O.b.x.clip, .int .u64 O.b.x.clips, .int .u64 O.b.x.bells, .slice qa l.length qc, .int .u64 (O.last : Nat), .int .i64 O.whn] 102 :: many L :: H) w) : St E (outP o O :: H) w := by
  obtain ⟨h, sa, dE, lh⟩ := s.has
  obtain ⟨h1, h2, s1', s2, d, rfl⟩ := (Sat.append (H := [_, _])).1 sa
  exact ⟨⟨_, ⟨h1, h2, ⟨s0, s1, qa, l, qc, L, hi, s1'⟩, s2, d, rfl⟩, dE, lh⟩, s.keep, s.os, s.tape, s.output⟩
section
variable {P : Program} {g : FuncId} {args : Array Value} {E : Env} {H : List HProp} {Q Q' : Value → List HProp → Prop}
/-- a call on a sender: the cells are written, the rest is read -/
theorem Does.out {o : Nat} {O : Ot} (h : ∀ E' s0 s1 qa l qc L, OutI O s0 s1 qa l qc L → (∀ A ∈ L, At A E') → E.Le E' → Does P g args E' [own o [.bool true, .int .u64 (O.a.n : Nat), .int .i64 O.a.x.v.rows, .int .i64 O.a.x.v.cols, s0, .int .i64 O.a.x.v.row, .int .i64 O.a.x.v.col, .bool O.a.x.v.vis, .string O.a.x.title, .string O.a.x.clip, .int .u64 O.a.x.clips, .int .u64 O.a.x.bells, .int .u64 (O.b.n : Nat), .int .i64 O.b.x.v.rows, .int .i64 O.b.x.v.cols, s1, .int .i64 O.b.x.v.row, .int .i64 O.b.x.v.col, .bool O.b.x.v.vis, .string O.b.x.title, .string O.b.x.clip, .int .u64 O.b.x.clips, .int .u64 O.b.x.bells, .slice qa l.length qc, .int .u64 (O.last : Nat), .int .i64 O.whn] 102] fun r H' => ∀ w, St E (H' ++ [many L]) w → ∃ H2, Q r H2 ∧ St E H2 w) : Does P g args E [outP o O] Q := fun w s => by
  obtain ⟨s0, s1, qa, l, qc, L, hi, s'⟩ := outP_out s
  refine ((Does.frm (Hc := [own o [.bool true, .int .u64 (O.a.n : Nat), .int .i64 O.a.x.v.rows, .int .i64 O.a.x.v.cols, s0, .int .i64 O.a.x.v.row, .int .i64 O.a.x.v.col, .bool O.a.x.v.vis, .string O.a.x.title, .string O.a.x.clip, .int .u64 O.a.x.clips, .int .u64 O.a.x.bells, .int .u64 (O.b.n : Nat), .int .i64 O.b.x.v.rows, .int .i64 O.b.x.v.cols, s1, .int .i64 O.b.x.v.row, .int .i64 O.b.x.v.col, .bool O.b.x.v.vis, .string O.b.x.title, .string O.b.x.clip, .int .u64 O.b.x.clips, .int .u64 O.b.x.bells, .slice qa l.length qc, .int .u64 (O.last : Nat), .int .i64 O.whn] 102]) (Hf := [many L]) fun E' le hat => h E' s0 s1 qa l qc L hi (at_many (hat _ (.head _))) le) w s').mono ?_
  rintro e w' ⟨v, H', rfl, ⟨A, q, rfl⟩, s2⟩
  obtain ⟨H2, hq, s3⟩ := q w' s2
  exact ⟨v, H2, rfl, hq, s3⟩
end
def Ot.new : Ot := ⟨⟨0, Stt.first⟩, ⟨0, Stt.first⟩, [], 0, 0⟩
theorem send_s (E : Env) : Does Try.prog 21 #[] E ([]) fun r H' => ∃ o, r = .pointer (some ⟨o, 0, none⟩) ∧ H' = [outP o Ot.new] := by
  refine Does.pst (send_b E) ?_
  rintro r H' ⟨f, rfl, g, rfl, o, m1, m2, m3, n1, n2, n3, rfl, rfl⟩
  refine ⟨[outP o Ot.new], fun w s => ?_, o, rfl, rfl⟩
  have s1 := many_iff.2 (s.perm (List.perm_middle (l₁ := [_, _]) (l₂ := [])).symm)
  exact outP_in (s0 := .slice m1 m2 m3) (s1 := .slice n1 n2 n3) (qa := none) (l := []) (qc := 0) (L := _) ⟨⟨_, _, _, rfl⟩, rfl, Rdv.new (.head _), Rdv.new (.tail _ (.head _)), Rdl.nil, by simp, by simp⟩ (s1.perm (List.Perm.swap _ _ _))
theorem base_s (E : Env) (o : Nat) (O : Ot) : Does Try.prog 34 #[.pointer (some ⟨o, 0, none⟩)] E ([outP o O]) fun r H' => r = .int .u64 (O.b.n : Nat) ∧ H' = [outP o O] := by
  refine Does.out fun E' s0 s1 qa l qc L hi hA le => (base_b E' o (O.a.ver s0) (O.b.ver s1) qa l qc O.last O.whn).mono ?_
  rintro r H' ⟨rfl, rfl⟩ w s
  exact ⟨_, ⟨rfl, rfl⟩, outP_in hi s⟩
theorem due_s (E : Env) (o : Nat) (O : Ot) (now wait : Int) (h1 : -1000000 ≤ now) (h2 : now ≤ 1000000) (h3 : -1000000 ≤ O.whn) (h4 : O.whn ≤ 1000000) : Does Try.prog 32 #[.pointer (some ⟨o, 0, none⟩), .int .i64 now, .int .i64 wait] E ([outP o O]) fun r H' => r = .bool (dueF O.a.n O.b.n O.last O.whn now wait) ∧ H' = [outP o O] := by
  refine Does.out fun E' s0 s1 qa l qc L hi hA le => (due_b E' o (O.a.ver s0) (O.b.ver s1) qa l qc O.last O.whn now wait h1 h2 h3 h4).mono ?_
  rintro r H' ⟨rfl, rfl⟩ w s
  exact ⟨_, ⟨rfl, rfl⟩, outP_in hi s⟩
theorem now_s (E : Env) (o : Nat) (O : Ot) (hb : O.a.x.v.cells.length ≤ 1000) : Does Try.prog 25 #[.pointer (some ⟨o, 0, none⟩)] E ([outP o O]) fun r H' => ∃ m1 m2 m3, r = .tuple #[.int .u64 (O.a.n : Nat), .agg #[.int .i64 O.a.x.v.rows, .int .i64 O.a.x.v.cols, .slice m1 m2 m3, .int .i64 O.a.x.v.row, .int .i64 O.a.x.v.col, .bool O.a.x.v.vis, .string O.a.x.title, .string O.a.x.clip, .int .u64 O.a.x.clips, .int .u64 O.a.x.bells]] ∧ H' = [outP o O, osl 127 4 (.slice m1 m2 m3) O.a.x.v.cells.length (O.a.x.v.cells.flatMap Cell.enc)] := by
  refine Does.out fun E' s0 s1 qa l qc L hi hA le => (now_b E' o (O.a.ver s0) (O.b.ver s1) qa l qc O.last O.whn (hi.ra E' hA) hb).mono ?_
  rintro r H' ⟨m1, m2, m3, rfl, rfl⟩ w s
  exact ⟨_, ⟨m1, m2, m3, rfl, rfl⟩, outP_in hi (s.perm (List.Perm.cons _ (List.Perm.swap _ _ _)))⟩
def G (x : Stt) : Prop := x.ok = true ∧ 0 ≤ x.clips ∧ 0 ≤ x.bells ∧ ∀ c ∈ x.v.cells, c.Fl
theorem G.len {x : Stt} (h : G x) : x.v.cells.length ≤ 1000 := by
  obtain ⟨f, _⟩ := View.ok_fits (Stt.ok_fits h.1).1
  obtain ⟨⟨h1, h2, h3, h4⟩, _, _, _, _, h5⟩ := f
  have : x.v.rows * x.v.cols ≤ 12 * 40 := Int.mul_le_mul h2 h4 (by omega) (by omega)
  omega
def Ot.set (O : Ot) (x : Stt) : Ot := if x.ok = true then (if x.eqv O.a.x then O else ⟨⟨O.a.n + 1, x⟩, O.b, O.l, O.last, O.whn⟩) else O
theorem outP_new {E : Env} {o : Nat} {O : Ot} {A : HProp} {w : World} {s0 s1 : Value} {qa : Option Addr} {l : List Ver} {qc : Nat} {L : List HProp} {H : List HProp} (hi : OutI O s0 s1 qa l qc (A :: L)) (s : St E (own o [.bool true, .int .u64 (O.a.n : Nat), .int .i64 O.a.x.v.rows, .int .i64 O.a.x.v.cols, s0, .int .i64 O.a.x.v.row, .int .i64 O.a.x.v.col, .bool O.a.x.v.vis, .string O.a.x.title, .string O.a.x.clip, .int .u64 O.a.x.clips, .int .u64 O.a.x.bells, .int .u64 (O.b.n : Nat), .int .i64 O.b.x.v.rows, .int .i64 O.b.x.v.cols, s1, .int .i64 O.b.x.v.row, .int .i64 O.b.x.v.col, .bool O.b.x.v.vis, .string O.b.x.title, .string O.b.x.clip, .int .u64 O.b.x.clips, .int .u64 O.b.x.bells, .slice qa l.length qc, .int .u64 (O.last : Nat), .int .i64 O.whn] 102 :: A :: many L :: H) w) : St E (outP o O :: H) w :=
  outP_in hi ((manyCons (s.perm (List.Perm.swap _ _ _ |>.trans (List.Perm.cons _ (List.Perm.swap _ _ _))))).perm (List.Perm.swap _ _ _))
theorem set_s (E : Env) (o : Nat) (O : Ot) (x : Stt) (sa : Option Addr) (sm sc : Nat) (hS : x.v.has E [] (.slice sa sm sc)) (hc : 0 ≤ x.clips) (hm : (O.a.n : Int) < 4611686018427387903) : Does Try.prog 24 #[.pointer (some ⟨o, 0, none⟩), .agg #[.int .i64 x.v.rows, .int .i64 x.v.cols, .slice sa sm sc, .int .i64 x.v.row, .int .i64 x.v.col, .bool x.v.vis, .string x.title, .string x.clip, .int .u64 x.clips, .int .u64 x.bells]] E ([outP o O]) fun r H' => r = .int .i64 (if x.ok = true then 0 else 3) ∧ H' = [outP o (O.set x)] := by
  refine Does.out fun E' s0 s1 qa l qc L hi hA le => ?_
  by_cases hx : x.ok = true
  · rw [Ot.set, if_pos hx, if_pos hx]
    have hl : x.v.cells.length ≤ 1000 := by
      obtain ⟨f, _⟩ := View.ok_fits (Stt.ok_fits hx).1
      obtain ⟨⟨h1, h2, h3, h4⟩, _, _, _, _, h5⟩ := f
      have : x.v.rows * x.v.cols ≤ 12 * 40 := Int.mul_le_mul h2 h4 (by omega) (by omega)
      omega
    by_cases hq : x.eqv O.a.x
    · rw [if_pos hq]
      refine (set_same E' o (O.a.ver s0) (O.b.ver s1) qa l qc O.last O.whn x sa sm sc (hi.ra E' hA) (Sl.mono hS le) hx hm hq).mono ?_
      rintro r H' ⟨rfl, rfl⟩ w s
      exact ⟨_, ⟨rfl, rfl⟩, outP_in hi s⟩
    · rw [if_neg hq]
      refine (set_new E' o (O.a.ver s0) (O.b.ver s1) qa l qc O.last O.whn x sa sm sc (hi.ra E' hA) (Sl.mono hS le) hx hl hm hq).mono ?_
      rintro r H' ⟨m1, m2, m3, rfl, rfl⟩ w s
      refine ⟨_, ⟨rfl, rfl⟩, outP_new (O := ⟨⟨O.a.n + 1, x⟩, O.b, O.l, O.last, O.whn⟩) (s0 := .slice m1 m2 m3) (s1 := s1) ⟨⟨_, _, _, rfl⟩, hi.hl, Rdv.new (.head _), hi.rb.mono fun A h => .tail _ h, hi.rl.mono fun A h => .tail _ h, fun v hv => (hi.rv v hv).mono fun A h => .tail _ h, hi.sl⟩ s⟩
  · rw [Ot.set, if_neg hx, if_neg hx]
    refine (set_form E' o (O.a.ver s0) (O.b.ver s1) qa l qc O.last O.whn x sa sm sc (hi.ra E' hA) (Sl.mono hS le) (by simpa using hx)).mono ?_
    rintro r H' ⟨rfl, rfl⟩ w s
    exact ⟨_, ⟨rfl, rfl⟩, outP_in hi s⟩
theorem OutI.up {O : Ot} {s0 s1 : Value} {qa : Option Addr} {l : List Ver} {qc : Nat} {L : List HProp} (hi : OutI O s0 s1 qa l qc L) (A : HProp) : OutI O s0 s1 qa l qc (A :: L) :=
  ⟨hi.i0, hi.hl, hi.ra.mono fun A h => .tail _ h, hi.rb.mono fun A h => .tail _ h, hi.rl.mono fun A h => .tail _ h, fun v hv => (hi.rv v hv).mono fun A h => .tail _ h, hi.sl⟩
def Ot.was (O : Ot) : Bool := O.l.any fun v => decide (v.n = O.a.n)
def Ot.make (O : Ot) (now : Int) : Ot := ⟨O.a, O.b, if O.was = true ∨ ¬ O.b.n < O.a.n then O.l else O.l.take 31 ++ [O.a], O.a.n, now⟩
theorem was_at {O : Ot} {s0 s1 : Value} {qa : Option Addr} {l : List Ver} {qc : Nat} {L : List HProp} (hi : OutI O s0 s1 qa l qc L) : decide (0 ≤ firstAt (fun v : Ver => decide ((v.n : Int) = (O.a.n : Nat))) l) = O.was := by
  rw [firstAt_any, Ot.was, ← hi.hl, List.any_map]
  congr 1
  funext v
  show decide (((v.n : Nat) : Int) = (O.a.n : Nat)) = decide (v.n = O.a.n)
  exact decide_eq_decide.2 Int.ofNat_inj
theorem Rdl.new {L : List HProp} {q1 : Option Addr} {q2 : Nat} {l : List Ver} (h : osl 98 11 (.slice q1 l.length q2) l.length (l.flatMap Ver.enc) ∈ L) : Rdl L q1 q2 l := fun E hA => Sl.at (hA _ h)
theorem make_s (E : Env) (o : Nat) (O : Ot) (now : Int) (hka : G O.a.x) (hkb : O.b.x.ok = true) (hlen : O.l.length ≤ 32) : Does Try.prog 27 #[.pointer (some ⟨o, 0, none⟩), .int .i64 now] E ([outP o O]) fun r H' => ∃ d1 d2 d3, r = .tuple #[.agg #[.int .u64 (O.b.n : Nat), .int .u64 (O.a.n : Nat), .slice d1 d2 d3], .int .i64 0] ∧ H' = [outP o (O.make now), osl 5 1 (.slice d1 d2 d3) (sdifB O.b.x O.a.x).length ((sdifB O.b.x O.a.x).map (.int .u8))] := by
  refine Does.out fun E' s0 s1 qa l qc L hi hA le => ?_
  have hw := was_at hi
  have hl : l.length ≤ 32 := by have := congrArg List.length hi.hl; rw [List.length_map] at this; omega
  by_cases h : O.was = true ∨ ¬ O.b.n < O.a.n
  · refine (make_old E' o (O.a.ver s0) (O.b.ver s1) qa l qc O.last O.whn now (hi.ra E' hA) (hi.rb E' hA) (hi.rl E' hA) hka.1 hkb hka.2.1 hka.2.2.1 hl ?_).mono ?_
    · rcases h with h | h
      · left; rw [h] at hw; exact of_decide_eq_true hw
      · right; show ¬ ((O.b.n : Nat) : Int) < (O.a.n : Nat); omega
    · rintro r H' ⟨d1, d2, d3, rfl, rfl⟩ w s
      rw [Ot.make, if_pos h]
      exact ⟨_, ⟨d1, d2, d3, rfl, rfl⟩, outP_in (O := ⟨O.a, O.b, O.l, O.a.n, now⟩) ⟨hi.i0, hi.hl, hi.ra, hi.rb, hi.rl, hi.rv, hi.sl⟩ (s.perm (List.Perm.cons _ (List.Perm.swap _ _ _)))⟩
  · refine (make_new E' o (O.a.ver s0) (O.b.ver s1) qa l qc O.last O.whn now (hi.ra E' hA) (hi.rb E' hA) (hi.rl E' hA) hka.1 hkb hka.2.1 hka.2.2.1 hl ?_ ?_).mono ?_
    · intro h0
      exact h (.inl (by rw [← hw]; exact decide_eq_true h0))
    · show ((O.b.n : Nat) : Int) < (O.a.n : Nat)
      have : O.b.n < O.a.n := Decidable.byContradiction fun h0 => h (.inr h0)
      omega
    · rintro r H' ⟨d1, d2, d3, q1, q2, rfl, rfl⟩ w s
      rw [Ot.make, if_neg h]
      have e1 : min l.length 31 - 0 + 1 = (l.take 31 ++ [O.a.ver s0]).length := by simp; omega
      have e2 : (l.take 31).flatMap Ver.enc ++ (O.a.ver s0).enc = (l.take 31 ++ [O.a.ver s0]).flatMap Ver.enc := by simp
      rw [e1, e2] at s
      have hi' := hi.up (osl 98 11 (.slice q1 (l.take 31 ++ [O.a.ver s0]).length q2) (l.take 31 ++ [O.a.ver s0]).length ((l.take 31 ++ [O.a.ver s0]).flatMap Ver.enc))
      refine ⟨_, ⟨d1, d2, d3, rfl, rfl⟩, outP_new (O := ⟨O.a, O.b, O.l.take 31 ++ [O.a], O.a.n, now⟩) (l := l.take 31 ++ [O.a.ver s0]) ⟨hi.i0, ?_, hi'.ra, hi'.rb, Rdl.new (.head _), ?_, ?_⟩ (s.perm (List.Perm.cons _ (List.Perm.cons _ (List.Perm.swap _ _ _))))⟩
      · rw [List.map_append, List.map_take, hi.hl]; rfl
      · intro v hv
        rcases List.mem_append.1 hv with hv | hv
        · exact hi'.rv v (List.mem_of_mem_take hv)
        · rw [List.mem_singleton.1 hv]; exact hi'.ra
      · intro v hv
        rcases List.mem_append.1 hv with hv | hv
        · exact hi.sl v (List.mem_of_mem_take hv)
        · rw [List.mem_singleton.1 hv]; exact hi.i0
def Ot.idx (O : Ot) (n : Nat) : Option Nat := O.l.findIdx? fun v => decide (v.n = n)
def Ot.ackE (O : Ot) (n : Nat) : Int := if n < O.b.n then 23 else if O.a.n < n then 1 else 0
def Ot.ack (O : Ot) (n : Nat) : Ot := if n < O.b.n then O else if O.a.n < n then O else if n = O.b.n then O else match O.idx n with
  | none => ⟨O.a, ⟨0, Stt.first⟩, O.l, O.last, O.whn⟩
  | some i => ⟨O.a, O.l[i]!, O.l.drop (i + 1), O.last, O.whn⟩
theorem idx_at {O : Ot} {s0 s1 : Value} {qa : Option Addr} {l : List Ver} {qc : Nat} {L : List HProp} (hi : OutI O s0 s1 qa l qc L) (n : Nat) : l.findIdx? (fun v : Ver => decide ((v.n : Int) = (n : Nat))) = O.idx n := by
  rw [Ot.idx, ← hi.hl, List.findIdx?_map]
  congr 1
  funext v
  show decide (((v.n : Nat) : Int) = (n : Nat)) = decide (v.n = n)
  exact decide_eq_decide.2 Int.ofNat_inj
theorem ack_s (E : Env) (o : Nat) (O : Ot) (n : Nat) (hlen : O.l.length ≤ 32) : Does Try.prog 30 #[.pointer (some ⟨o, 0, none⟩), .int .u64 (n : Nat)] E ([outP o O]) fun r H' => r = .int .i64 (O.ackE n) ∧ H' = [outP o (O.ack n)] := by
  refine Does.out fun E' s0 s1 qa l qc L hi hA le => ?_
  have hl : l.length = O.l.length := by have := congrArg List.length hi.hl; rwa [List.length_map] at this
  have hx := idx_at hi n
  by_cases h1 : n < O.b.n
  · rw [Ot.ack, if_pos h1, Ot.ackE, if_pos h1]
    refine (ack_old E' o (O.a.ver s0) (O.b.ver s1) qa l qc O.last O.whn n (by show ((n : Nat) : Int) < (O.b.n : Nat); omega)).mono ?_
    rintro r H' ⟨rfl, rfl⟩ w s
    exact ⟨_, ⟨rfl, rfl⟩, outP_in hi s⟩
  have h1' : ¬ ((n : Nat) : Int) < ((O.b.ver s1).n : Nat) := by show ¬ ((n : Nat) : Int) < (O.b.n : Nat); omega
  by_cases h2 : O.a.n < n
  · rw [Ot.ack, if_neg h1, if_pos h2, Ot.ackE, if_neg h1, if_pos h2]
    refine (ack_arg E' o (O.a.ver s0) (O.b.ver s1) qa l qc O.last O.whn n h1' (by show ((O.a.n : Nat) : Int) < (n : Nat); omega)).mono ?_
    rintro r H' ⟨rfl, rfl⟩ w s
    exact ⟨_, ⟨rfl, rfl⟩, outP_in hi s⟩
  have h2' : ¬ (((O.a.ver s0).n : Nat) : Int) < (n : Nat) := by show ¬ ((O.a.n : Nat) : Int) < (n : Nat); omega
  rw [Ot.ack, if_neg h1, if_neg h2, Ot.ackE, if_neg h1, if_neg h2]
  by_cases h3 : n = O.b.n
  · rw [if_pos h3]
    refine (ack_base E' o (O.a.ver s0) (O.b.ver s1) qa l qc O.last O.whn n (by show ((n : Nat) : Int) = (O.b.n : Nat); omega) h2').mono ?_
    rintro r H' ⟨rfl, rfl⟩ w s
    exact ⟨_, ⟨rfl, rfl⟩, outP_in hi s⟩
  have h3' : ((n : Nat) : Int) ≠ ((O.b.ver s1).n : Nat) := by show ((n : Nat) : Int) ≠ (O.b.n : Nat); omega
  rw [if_neg h3]
  cases hix : O.idx n with
  | none =>
    rw [hix] at hx
    refine (ack_none E' o (O.a.ver s0) (O.b.ver s1) qa l qc O.last O.whn n h1' h2' h3' (hi.rl E' hA) (by unfold firstAt; rw [hx]; decide)).mono ?_
    rintro r H' ⟨f, rfl, m1, m2, m3, rfl, rfl⟩ w s
    have hi' := hi.up (osl 127 4 (.slice m1 m2 m3) Stt.first.v.cells.length (Stt.first.v.cells.flatMap Cell.enc))
    exact ⟨_, ⟨rfl, rfl⟩, outP_new (O := ⟨O.a, ⟨0, Stt.first⟩, O.l, O.last, O.whn⟩) (s1 := .slice m1 m2 m3) ⟨hi.i0, hi.hl, hi'.ra, Rdv.new (.head _), hi'.rl, hi'.rv, hi.sl⟩ s⟩
  | some i =>
    rw [hix] at hx
    have hil : i < l.length := by have := (List.findIdx?_eq_some_iff_getElem.1 hx).1; exact this
    have hb : O.l[i]! = (l[i]!).ov := by
      rw [← hi.hl, getElem!_pos l i hil, getElem!_pos _ i (by rw [List.length_map]; exact hil), List.getElem_map]
    refine (ack_some E' o (O.a.ver s0) (O.b.ver s1) qa l qc O.last O.whn n h1' h2' h3' (hi.rl E' hA) i (by unfold firstAt; rw [hx]) hil (by omega) hi.sl).mono ?_
    rintro r H' ⟨q1, q2, q3, rfl, rfl⟩ w s
    have e1 : l.length - (i + 1) = (l.drop (i + 1)).length := by simp
    rw [e1] at s
    obtain rfl := Sl.litLen (Sl.osl 1 rfl) w s
    have hi' := hi.up (osl 98 11 (.slice q1 (l.drop (i + 1)).length q3) (l.drop (i + 1)).length ((l.drop (i + 1)).flatMap Ver.enc))
    have hm : l[i]! ∈ l := by rw [getElem!_pos l i hil]; exact List.getElem_mem _
    have hO : (⟨O.a, O.l[i]!, O.l.drop (i + 1), O.last, O.whn⟩ : Ot) = ⟨O.a, (l[i]!).ov, O.l.drop (i + 1), O.last, O.whn⟩ := by rw [hb]
    refine ⟨_, ⟨rfl, rfl⟩, ?_⟩
    dsimp only
    rw [hO]
    refine outP_new (O := ⟨O.a, (l[i]!).ov, O.l.drop (i + 1), O.last, O.whn⟩) (s0 := s0) (s1 := (l[i]!).s) (l := l.drop (i + 1)) ⟨hi.i0, ?_, hi'.ra, hi'.rv _ hm, Rdl.new (.head _), fun v hv => hi'.rv v (List.mem_of_mem_drop hv), fun v hv => hi.sl v (List.mem_of_mem_drop hv)⟩ s
    rw [List.map_drop, hi.hl]
def inP (i : Nat) (I : Ov) : HProp := fun h => ∃ s0 L, Rdv L (I.ver s0) ∧ Sat [own i [.bool true, .int .u64 (I.n : Nat), .int .i64 I.x.v.rows, .int .i64 I.x.v.cols, s0, .int .i64 I.x.v.row, .int .i64 I.x.v.col, .bool I.x.v.vis, .string I.x.title, .string I.x.clip, .int .u64 I.x.clips, .int .u64 I.x.bells] 104, many L] h
theorem inP_out {E : Env} {i : Nat} {I : Ov} {H : List HProp} {w : World} (s : St E (inP i I :: H) w) : ∃ s0 L, Rdv L (I.ver s0) ∧ St E (own i [.bool true, .int .u64 (I.n : Nat), .int .i64 I.x.v.rows, .int .i64 I.x.v.cols, s0, .int .i64 I.x.v.row, .int .i64 I.x.v.col, .bool I.x.v.vis, .string I.x.title, .string I.x.clip, .int .u64 I.x.clips, .int .u64 I.x.bells] 104 :: many L :: H) w := by
  obtain ⟨h, ⟨h1, h2, ⟨s0, L, hi, s1'⟩, s2, d, rfl⟩, dE, lh⟩ := s.has
  exact ⟨s0, L, hi, ⟨_, Sat.append.2 ⟨h1, h2, s1', s2, d, rfl⟩, dE, lh⟩, s.keep, s.os, s.tape, s.output⟩
theorem inP_in {E : Env} {i : Nat} {I : Ov} {H : List HProp} {w : World} {s0 : Value} {L : List HProp} (hi : Rdv L (I.ver s0)) (s : St E (own i [.bool true, .int .u64 (I.n : Nat), .int .i64 I.x.v.rows, .int .i64 I.x.v.cols, s0, .int .i64 I.x.v.row, .int .i64 I.x.v.col, .bool I.x.v.vis, .string I.x.title, .string I.x.clip, .int .u64 I.x.clips, .int .u64 I.x.bells] 104 :: many L :: H) w) : St E (inP i I :: H) w := by
  obtain ⟨h, sa, dE, lh⟩ := s.has
  obtain ⟨h1, h2, s1', s2, d, rfl⟩ := (Sat.append (H := [_, _])).1 sa
  exact ⟨⟨_, ⟨h1, h2, ⟨s0, L, hi, s1'⟩, s2, d, rfl⟩, dE, lh⟩, s.keep, s.os, s.tape, s.output⟩
theorem Does.inn {P : Program} {g : FuncId} {args : Array Value} {E : Env} {Q : Value → List HProp → Prop} {i : Nat} {I : Ov} (h : ∀ E' s0 L, Rdv L (I.ver s0) → (∀ A ∈ L, At A E') → E.Le E' → Does P g args E' [own i [.bool true, .int .u64 (I.n : Nat), .int .i64 I.x.v.rows, .int .i64 I.x.v.cols, s0, .int .i64 I.x.v.row, .int .i64 I.x.v.col, .bool I.x.v.vis, .string I.x.title, .string I.x.clip, .int .u64 I.x.clips, .int .u64 I.x.bells] 104] fun r H' => ∀ w, St E (H' ++ [many L]) w → ∃ H2, Q r H2 ∧ St E H2 w) : Does P g args E [inP i I] Q := fun w s => by
  obtain ⟨s0, L, hi, s'⟩ := inP_out s
  refine ((Does.frm (Hc := [own i [.bool true, .int .u64 (I.n : Nat), .int .i64 I.x.v.rows, .int .i64 I.x.v.cols, s0, .int .i64 I.x.v.row, .int .i64 I.x.v.col, .bool I.x.v.vis, .string I.x.title, .string I.x.clip, .int .u64 I.x.clips, .int .u64 I.x.bells] 104]) (Hf := [many L]) fun E' le hat => h E' s0 L hi (at_many (hat _ (.head _))) le) w s').mono ?_
  rintro e w' ⟨v, H', rfl, ⟨A, q, rfl⟩, s2⟩
  obtain ⟨H2, hq, s3⟩ := q w' s2
  exact ⟨v, H2, rfl, hq, s3⟩
theorem inP_new {E : Env} {i : Nat} {I : Ov} {A : HProp} {w : World} {s0 : Value} {L H : List HProp} (hi : Rdv (A :: L) (I.ver s0)) (s : St E (own i [.bool true, .int .u64 (I.n : Nat), .int .i64 I.x.v.rows, .int .i64 I.x.v.cols, s0, .int .i64 I.x.v.row, .int .i64 I.x.v.col, .bool I.x.v.vis, .string I.x.title, .string I.x.clip, .int .u64 I.x.clips, .int .u64 I.x.bells] 104 :: A :: many L :: H) w) : St E (inP i I :: H) w :=
  inP_in hi ((manyCons (s.perm (List.Perm.swap _ _ _ |>.trans (List.Perm.cons _ (List.Perm.swap _ _ _))))).perm (List.Perm.swap _ _ _))
theorem recv_s (E : Env) : Does Try.prog 22 #[] E ([]) fun r H' => ∃ i, r = .pointer (some ⟨i, 0, none⟩) ∧ H' = [inP i ⟨0, Stt.first⟩] := by
  refine Does.pst (recv_b E) ?_
  rintro r H' ⟨f, rfl, i, m1, m2, m3, rfl, rfl⟩
  refine ⟨[inP i ⟨0, Stt.first⟩], fun w s => ?_, i, rfl, rfl⟩
  have s1 := many_iff.2 (s.perm (List.perm_middle (l₁ := [_]) (l₂ := [])).symm)
  exact inP_in (I := ⟨0, Stt.first⟩) (s0 := .slice m1 m2 m3) (L := _) (Rdv.new (.head _)) (s1.perm (List.Perm.swap _ _ _))
theorem inow_s (E : Env) (i : Nat) (I : Ov) (hb : I.x.v.cells.length ≤ 1000) : Does Try.prog 29 #[.pointer (some ⟨i, 0, none⟩)] E ([inP i I]) fun r H' => ∃ m1 m2 m3, r = .tuple #[.int .u64 (I.n : Nat), .agg #[.int .i64 I.x.v.rows, .int .i64 I.x.v.cols, .slice m1 m2 m3, .int .i64 I.x.v.row, .int .i64 I.x.v.col, .bool I.x.v.vis, .string I.x.title, .string I.x.clip, .int .u64 I.x.clips, .int .u64 I.x.bells]] ∧ H' = [inP i I, osl 127 4 (.slice m1 m2 m3) I.x.v.cells.length (I.x.v.cells.flatMap Cell.enc)] := by
  refine Does.inn fun E' s0 L hi hA le => (inow_b E' i (I.ver s0) (hi E' hA) hb).mono ?_
  rintro r H' ⟨m1, m2, m3, rfl, rfl⟩ w s
  exact ⟨_, ⟨m1, m2, m3, rfl, rfl⟩, inP_in hi (s.perm (List.Perm.cons _ (List.Perm.swap _ _ _)))⟩
theorem take_old (E : Env) (i : Nat) (I : Ov) (cb cn : Nat) (d1 : Option Addr) (d2 d3 : Nat) (h : cn ≤ I.n) : Does Try.prog 28 #[.pointer (some ⟨i, 0, none⟩), .agg #[.int .u64 (cb : Nat), .int .u64 (cn : Nat), .slice d1 d2 d3]] E ([inP i I]) fun r H' => r = .int .i64 23 ∧ H' = [inP i I] := by
  refine Does.inn fun E' s0 L hi hA le => (itake_old E' i (I.ver s0) cb cn d1 d2 d3 h).mono ?_
  rintro r H' ⟨rfl, rfl⟩ w s
  exact ⟨_, ⟨rfl, rfl⟩, inP_in hi s⟩
theorem take_base (E : Env) (i : Nat) (I : Ov) (cb cn : Nat) (d1 : Option Addr) (d2 d3 : Nat) (h : ¬ cn ≤ I.n) (h1 : cb ≠ 0) (h2 : cb ≠ I.n) : Does Try.prog 28 #[.pointer (some ⟨i, 0, none⟩), .agg #[.int .u64 (cb : Nat), .int .u64 (cn : Nat), .slice d1 d2 d3]] E ([inP i I]) fun r H' => r = .int .i64 30 ∧ H' = [inP i I] := by
  refine Does.inn fun E' s0 L hi hA le => (itake_base E' i (I.ver s0) cb cn d1 d2 d3 h h1 h2).mono ?_
  rintro r H' ⟨rfl, rfl⟩ w s
  exact ⟨_, ⟨rfl, rfl⟩, inP_in hi s⟩
theorem take_ok (E : Env) (i : Nat) (I : Ov) (cb cn : Nat) (d1 : Option Addr) (d2 d3 : Nat) (from_ x : Stt) (bs : List Int) (h : ¬ cn ≤ I.n) (hd : Sl E [] 1 (.slice d1 d2 d3) bs.length (bs.map (.int .u8))) (hb : Byt bs) (hmax : bs.length ≤ 100000) (hG : G I.x) (hf : (cb = 0 ∧ from_ = Stt.first) ∨ (cb ≠ 0 ∧ cb = I.n ∧ from_ = I.x)) (hv : sapplyV from_ bs = some x) : Does Try.prog 28 #[.pointer (some ⟨i, 0, none⟩), .agg #[.int .u64 (cb : Nat), .int .u64 (cn : Nat), .slice d1 d2 d3]] E ([inP i I]) fun r H' => r = .int .i64 0 ∧ H' = [inP i ⟨cn, x⟩] := by
  refine Does.inn fun E' s0 L hi hA le => ?_
  rcases hf with ⟨h0, rfl⟩ | ⟨h0, h1, rfl⟩
  · refine (itake_first E' i (I.ver s0) cb cn d1 d2 d3 x bs h (Sl.mono hd le) hb hmax (hi E' hA) h0 hv).mono ?_
    rintro r H' ⟨m1, m2, m3, rfl, rfl⟩ w s
    exact ⟨_, ⟨rfl, rfl⟩, inP_new (I := ⟨cn, x⟩) (s0 := .slice m1 m2 m3) (Rdv.new (.head _)) s⟩
  · refine (itake_at E' i (I.ver s0) cb cn d1 d2 d3 x bs h (Sl.mono hd le) hb hmax (hi E' hA) h1 h0 hG.2.2.2 hG.2.1 hG.2.2.1 hv).mono ?_
    rintro r H' ⟨m1, m2, m3, rfl, rfl⟩ w s
    exact ⟨_, ⟨rfl, rfl⟩, inP_new (I := ⟨cn, x⟩) (s0 := .slice m1 m2 m3) (Rdv.new (.head _)) s⟩
end Go.Proofs.Ytagcpamchgpgiaa
end
section
/- sync: what stands of all versions. -/
namespace Go.Proofs.Ytagcpamchgpgiaa
set_option maxRecDepth 100000
set_option maxHeartbeats 4000000
set_option linter.unusedVariables false
set_option linter.unusedSimpArgs false
open Go.Sx

theorem firstS_G : G Stt.first := ⟨sfirst_ok', by decide, by decide, firstS_fl⟩
structure OI (V : List Stt) (O : Ot) : Prop where
  len : V.length = O.a.n + 1
  a : V[O.a.n]? = some O.a.x
  bn : O.b.n ≤ O.a.n
  b : V[O.b.n]? = some O.b.x
  l : ∀ v ∈ O.l, v.n ≤ O.a.n ∧ V[v.n]? = some v.x
  ll : O.l.length ≤ 32
  z : V[0]? = some Stt.first
  g : ∀ x ∈ V, G x
theorem OI.ga {V : List Stt} {O : Ot} (h : OI V O) : G O.a.x := h.g _ (List.mem_of_getElem? h.a)
theorem OI.gb {V : List Stt} {O : Ot} (h : OI V O) : G O.b.x := h.g _ (List.mem_of_getElem? h.b)
theorem OI.new : OI [Stt.first] Ot.new := ⟨rfl, rfl, Nat.le_refl _, rfl, by simp [Ot.new], by simp [Ot.new], rfl, by intro x hx; rw [List.mem_singleton.1 hx]; exact firstS_G⟩
def setV (V : List Stt) (O : Ot) (x : Stt) : List Stt := if x.ok = true then (if x.eqv O.a.x then V else V ++ [x]) else V
theorem OI.set {V : List Stt} {O : Ot} (h : OI V O) {x : Stt} (hx : x.ok = true → G x) : OI (setV V O x) (O.set x) := by
  unfold setV Ot.set
  by_cases hk : x.ok = true
  · rw [if_pos hk, if_pos hk]
    by_cases hq : x.eqv O.a.x
    · rw [if_pos hq, if_pos hq]; exact h
    · rw [if_neg hq, if_neg hq]
      have hl := h.len
      have up : ∀ {i : Nat} {y : Stt}, V[i]? = some y → (V ++ [x])[i]? = some y := fun {i y} e => by
        rw [List.getElem?_append_left (List.getElem?_eq_some_iff.1 e).1]; exact e
      refine ⟨by simp [hl], ?_, Nat.le_succ_of_le h.bn, up h.b, fun v hv => ⟨Nat.le_succ_of_le (h.l v hv).1, up (h.l v hv).2⟩, h.ll, up h.z, ?_⟩
      · rw [show (⟨O.a.n + 1, x⟩ : Ov).n = V.length from hl.symm]
        simp
      · intro y hy
        rcases List.mem_append.1 hy with hy | hy
        · exact h.g y hy
        · rw [List.mem_singleton.1 hy]; exact hx hk
  · rw [if_neg hk, if_neg hk]; exact h
theorem OI.make {V : List Stt} {O : Ot} (h : OI V O) (now : Int) : OI V (O.make now) := by
  unfold Ot.make
  refine ⟨h.len, h.a, h.bn, h.b, ?_, ?_, h.z, h.g⟩
  · dsimp only
    split
    · exact h.l
    · intro v hv
      rcases List.mem_append.1 hv with hv | hv
      · exact h.l v (List.mem_of_mem_take hv)
      · rw [List.mem_singleton.1 hv]; exact ⟨Nat.le_refl _, h.a⟩
  · dsimp only
    split
    · exact h.ll
    · simp; omega
theorem idx_some {O : Ot} {n i : Nat} (h : O.idx n = some i) : i < O.l.length ∧ O.l[i]! ∈ O.l ∧ (O.l[i]!).n = n := by
  rw [Ot.idx, List.findIdx?_eq_some_iff_getElem] at h
  obtain ⟨hi, h1, _⟩ := h
  refine ⟨hi, ?_, ?_⟩
  · rw [getElem!_pos _ i hi]; exact List.getElem_mem _
  · rw [getElem!_pos _ i hi]; exact of_decide_eq_true h1
theorem idx_none {O : Ot} {n : Nat} (h : O.idx n = none) : ∀ v ∈ O.l, v.n ≠ n := by
  rw [Ot.idx, List.findIdx?_eq_none_iff] at h
  intro v hv
  have := h v hv
  simpa using this
theorem OI.ack {V : List Stt} {O : Ot} (h : OI V O) (n : Nat) : OI V (O.ack n) := by
  unfold Ot.ack
  repeat' split
  all_goals first | exact h | skip
  · exact ⟨h.len, h.a, Nat.zero_le _, h.z, h.l, h.ll, h.z, h.g⟩
  · rename_i i hi
    obtain ⟨h1, h2, h3⟩ := idx_some hi
    have := h.l _ h2
    exact ⟨h.len, h.a, this.1, this.2, fun v hv => h.l v (List.mem_of_mem_drop hv), by have := h.ll; simp; omega, h.z, h.g⟩
/-- behind Make the version now can be acked -/
theorem ack_now {O : Ot} (hb : O.b.n ≤ O.a.n) (now : Int) : (O.make now).ackE O.a.n = 0 ∧ ((O.make now).ack O.a.n).b.n = O.a.n ∧ ((O.make now).ack O.a.n).a = O.a := by
  have h1 : ¬ O.a.n < O.b.n := by omega
  unfold Ot.ackE Ot.ack
  rw [show (O.make now).b = O.b from rfl, show (O.make now).a = O.a from rfl, if_neg h1, if_neg (Nat.lt_irrefl _), if_neg h1, if_neg (Nat.lt_irrefl _)]
  refine ⟨rfl, ?_⟩
  by_cases h : O.a.n = O.b.n
  · rw [if_pos h]; exact ⟨h.symm, rfl⟩
  · rw [if_neg h]
    cases hi : (O.make now).idx O.a.n with
    | none =>
      exfalso
      have hn := idx_none hi
      unfold Ot.make at hn
      dsimp only at hn
      split at hn
      · rename_i hw
        rcases hw with hw | hw
        · rw [Ot.was, List.any_eq_true] at hw
          obtain ⟨v, hv, h2⟩ := hw
          exact hn v hv (of_decide_eq_true h2)
        · exact hw (by omega)
      · exact hn O.a (by simp) rfl
    | some i =>
      obtain ⟨_, _, h3⟩ := idx_some hi
      exact ⟨h3, rfl⟩
theorem sapply_same {a b : Stt} (ka : G a) (kb : G b) : sapplyV a (sdifB a b) = some b := sapplyV_dif ka.1 kb.1 kb.2.1 kb.2.2.1
theorem sdif_byt {a b : Stt} (ka : G a) (kb : G b) : Byt (sdifB a b) := sdifB_byt ka.1 kb.1 kb.2.2.2 kb.2.1 kb.2.2.1
end Go.Proofs.Ytagcpamchgpgiaa
end
section
/- layer 29: alive. -/
namespace Go.Proofs.Ytagcpamchgpgiaa
set_option maxRecDepth 100000
set_option maxHeartbeats 4000000
set_option linter.unusedVariables false
set_option linter.unusedSimpArgs false
open Go.Sx

abbrev firstX : Stt := ⟨Stt.first.v, ⟨#[120]⟩, Stt.first.clip, Stt.first.clips, Stt.first.bells⟩
theorem firstX_G : G firstX := ⟨by decide +kernel, by decide, by decide, firstS_fl⟩
def OX : Ot := ⟨⟨1, firstX⟩, ⟨0, Stt.first⟩, [], 0, 0⟩
theorem firstX_ne : ¬ firstX.eqv Stt.first := fun h => by
  have := Stt.eqv_iff.1 h
  have h2 := congrArg Stt.title this
  exact absurd h2 (by decide +kernel)
theorem alive29_ok (E : Env) : Does Try.prog 31 #[] E ([]) fun r H' => r = .bool true ∧ H' = [] := by
  refine Does.go _ _ Try.func31 rfl Try.ntmps31 rfl rfl ?_
  refine Body.seq ?_
  refine Body.region ?_
  refine Ops.u (Dtu.asg (lk rfl)) rfl ?_
  refine Ops.nil ?_
  refine Then.next ?_
  refine Body.seq ?_
  refine Body.region ?_
  refine Ops.s (Stp.call rfl Try.call21 (lks rfl) (fun E' le hat => send_s E') ?_) rfl
  rintro _ _ ⟨no13, rfl, rfl⟩
  refine Ops.s (Stp.call rfl Try.call22 (lks rfl) (fun E' le hat => recv_s E') ?_) rfl
  rintro _ _ ⟨ni14, rfl, rfl⟩
  refine Ops.u (Dtu.asg (lk rfl)) rfl ?_
  refine Ops.u (Dtu.asg (lk rfl)) rfl ?_
  refine Ops.nil ?_
  refine Then.next ?_
  refine Body.seq ?_
  refine Body.region ?_
  refine Ops.s (Stp.call rfl Try.call23 (lks rfl) (fun E' le hat => sfirstG_ok E') ?_) rfl
  rintro _ _ ⟨f15, fe15, fa15, fm15, fc15, rfl, rfl⟩
  refine Ops.s (Stp.alloc ty62 (fun b3 => ?_)) rfl
  refine Ops.e (Stp.store 0 Try.sizeOf62 (lk rfl) (lk rfl) rfl rfl rfl rfl rfl rfl rfl ?_)
  refine Ops.nil ?_
  refine Then.next ?_
  refine Body.seq ?_
  refine Body.region ?_
  refine Ops.u (Dtu.fld fa62_1 (lk rfl)) rfl ?_
  refine Ops.e (Stp.store 0 Try.sizeOf9 (lk rfl) (lk rfl) rfl rfl rfl rfl rfl rfl rfl ?_)
  refine Ops.nil ?_
  refine Then.next ?_
  refine Body.seq ?_
  refine Body.region ?_
  refine Ops.u (Dtu.mv (lk rfl)) rfl ?_
  refine Ops.d (Det.lda Try.isAgg62 Try.sizeOf62 (lk rfl) (Rds.ow (m := 10) 0 rfl rfl) rfl) rfl ?_
  refine Ops.s (Stp.callOwn [3] rfl rfl Try.call24 (lks rfl) (fun E' le hat => set_s E' no13 Ot.new ⟨f15.v, ⟨#[120]⟩, f15.clip, f15.clips, f15.bells⟩ fa15 fm15 fc15 (by first | exact Sl.hatI hat 0 rfl | exact Sl.hatI hat 1 rfl | exact Sl.hatI hat 2 rfl | exact Sl.hatI hat 3 rfl | exact Sl.hatI hat 4 rfl | exact Sl.hatI hat 5 rfl | exact Sl.hatI hat 6 rfl | exact Sl.hatI hat 7 rfl | exact Sl.hatI hat 8 rfl | exact Sl.hatI hat 9 rfl) (by rw [fe15]; decide) (by decide)) ?_) rfl
  rintro _ _ ⟨rfl, rfl⟩
  refine Ops.u (Dtu.asg (lk rfl)) rfl ?_
  refine Ops.nil ?_
  refine Then.next ?_
  have e1 : Ot.new.set ⟨f15.v, ⟨#[120]⟩, f15.clip, f15.clips, f15.bells⟩ = OX := by
    rw [fe15]
    show Ot.new.set firstX = OX
    rw [Ot.set, if_pos firstX_G.1]
    exact if_neg firstX_ne
  have e2 : (if (⟨f15.v, ⟨#[120]⟩, f15.clip, f15.clips, f15.bells⟩ : Stt).ok = true then (0 : Int) else 3) = 0 := by
    rw [fe15]; exact if_pos firstX_G.1
  rw [e1, e2]
  have hd : dueF OX.a.n OX.b.n OX.last OX.whn 1 5 = true := by decide +kernel
  have hw1 : -1000000 ≤ OX.whn := by decide
  have hw2 : OX.whn ≤ 1000000 := by decide
  refine Body.seq ?_
  refine Body.region ?_
  refine Ops.u (Dtu.mv (lk rfl)) rfl ?_
  refine Ops.s (Stp.callOwn [0] rfl rfl Try.call32 (lks rfl) (fun E' le hat => due_s E' _ _ _ _ (by first | with_reducible assumption | omega | assumption) (by first | with_reducible assumption | omega | assumption) (by first | with_reducible assumption | omega | assumption) (by first | with_reducible assumption | omega | assumption)) ?_) rfl
  rintro _ _ ⟨rfl, rfl⟩
  refine Ops.u (Dtu.asg (lk rfl)) rfl ?_
  refine Ops.nil ?_
  refine Then.next ?_
  refine Body.seq ?_
  refine Body.region ?_
  refine Ops.u (Dtu.mv (lk rfl)) rfl ?_
  refine Ops.s (Stp.callOwn [0] rfl rfl Try.call27 (lks rfl) (fun E' le hat => make_s E' no13 OX 1 firstX_G sfirst_ok' (by decide)) ?_) rfl
  rintro _ _ ⟨nd24, ne24, ng24, rfl, rfl⟩
  refine Ops.u (Dtu.mv (lk rfl)) rfl ?_
  refine Ops.u (Dtu.ext (lk rfl) rfl) rfl ?_
  refine Ops.u (Dtu.ext (lk rfl) rfl) rfl ?_
  refine Ops.s (Stp.alloc ty73 (fun b6 => ?_)) rfl
  refine Ops.e (Stp.store 0 Try.sizeOf73 (lk rfl) (lk rfl) rfl rfl rfl rfl rfl rfl rfl ?_)
  refine Ops.u (Dtu.asg (lk rfl)) rfl ?_
  refine Ops.nil ?_
  refine Then.next ?_
  refine Body.seq ?_
  refine Body.region ?_
  refine Ops.u (Dtu.mv (lk rfl)) rfl ?_
  refine Ops.d (Det.lda Try.isAgg73 Try.sizeOf73 (lk rfl) (Rds.ow (m := 3) 0 rfl rfl) rfl) rfl ?_
  refine Ops.s (Stp.callOwn [5] rfl rfl Try.call28 (lks rfl) (fun E' le hat => take_ok E' ni14 ⟨0, Stt.first⟩ OX.b.n OX.a.n nd24 ne24 ng24 Stt.first OX.a.x (sdifB OX.b.x OX.a.x) (by decide) (by first | exact Sl.hatI hat 0 rfl | exact Sl.hatI hat 1 rfl | exact Sl.hatI hat 2 rfl | exact Sl.hatI hat 3 rfl | exact Sl.hatI hat 4 rfl | exact Sl.hatI hat 5 rfl | exact Sl.hatI hat 6 rfl | exact Sl.hatI hat 7 rfl | exact Sl.hatI hat 8 rfl | exact Sl.hatI hat 9 rfl) (sdif_byt firstS_G firstX_G) (Nat.le_trans (sdifB_most sfirst_ok' firstX_G.1) (by decide)) firstS_G (.inl ⟨rfl, rfl⟩) (sapply_same firstS_G firstX_G)) ?_) rfl
  rintro _ _ ⟨rfl, rfl⟩
  refine Ops.u (Dtu.asg (lk rfl)) rfl ?_
  refine Ops.nil ?_
  refine Then.next ?_
  refine Body.seq ?_
  refine Body.region ?_
  refine Ops.u (Dtu.mv (lk rfl)) rfl ?_
  refine Ops.d (Det.lda Try.isAgg73 Try.sizeOf73 (lk rfl) (Rds.ow (m := 3) 1 rfl rfl) rfl) rfl ?_
  refine Ops.s (Stp.callOwn [0] rfl rfl Try.call28 (lks rfl) (fun E' le hat => take_old E' ni14 ⟨OX.a.n, OX.a.x⟩ OX.b.n OX.a.n nd24 ne24 ng24 (by decide)) ?_) rfl
  rintro _ _ ⟨rfl, rfl⟩
  refine Ops.u (Dtu.asg (lk rfl)) rfl ?_
  refine Ops.nil ?_
  refine Then.next ?_
  have hIl : (⟨OX.a.n, OX.a.x⟩ : Ov).x.v.cells.length ≤ 1000 := by decide
  have hll : (OX.make 1).l.length ≤ 32 := by decide
  refine Body.seq ?_
  refine Body.region ?_
  refine Ops.u (Dtu.mv (lk rfl)) rfl ?_
  refine Ops.s (Stp.callOwn [0] rfl rfl Try.call29 (lks rfl) (fun E' le hat => inow_s E' _ _ (by first | with_reducible assumption | omega | assumption)) ?_) rfl
  rintro _ _ ⟨na35, nb35, nc35, rfl, rfl⟩
  refine Ops.u (Dtu.mv (lk rfl)) rfl ?_
  refine Ops.u (Dtu.ext (lk rfl) rfl) rfl ?_
  refine Ops.u (Dtu.ext (lk rfl) rfl) rfl ?_
  refine Ops.s (Stp.alloc ty62 (fun b11 => ?_)) rfl
  refine Ops.u (Dtu.asg (lk rfl)) rfl ?_
  refine Ops.e (Stp.store 0 Try.sizeOf62 (lk rfl) (lk rfl) rfl rfl rfl rfl rfl rfl rfl ?_)
  refine Ops.nil ?_
  refine Then.next ?_
  refine Body.seq ?_
  refine Body.region ?_
  refine Ops.u (Dtu.mv (lk rfl)) rfl ?_
  refine Ops.u (Dtu.mv (lk rfl)) rfl ?_
  refine Ops.s (Stp.callOwn [4] rfl rfl Try.call30 (lks rfl) (fun E' le hat => ack_s E' _ _ _ (by first | with_reducible assumption | omega | assumption)) ?_) rfl
  rintro _ _ ⟨rfl, rfl⟩
  refine Ops.u (Dtu.asg (lk rfl)) rfl ?_
  refine Ops.nil ?_
  refine Then.next ?_
  have hA : (OX.make 1).ackE (⟨OX.a.n, OX.a.x⟩ : Ov).n = 0 := (ack_now (O := OX) (by decide) 1).1
  have hB : ((OX.make 1).ack (⟨OX.a.n, OX.a.x⟩ : Ov).n).b.n = 1 := (ack_now (O := OX) (by decide) 1).2.1
  have hC : dueF ((OX.make 1).ack (⟨OX.a.n, OX.a.x⟩ : Ov).n).a.n ((OX.make 1).ack (⟨OX.a.n, OX.a.x⟩ : Ov).n).b.n ((OX.make 1).ack (⟨OX.a.n, OX.a.x⟩ : Ov).n).last ((OX.make 1).ack (⟨OX.a.n, OX.a.x⟩ : Ov).n).whn 9 5 = false := by decide +kernel
  have hw3 : -1000000 ≤ ((OX.make 1).ack (⟨OX.a.n, OX.a.x⟩ : Ov).n).whn := by decide +kernel
  have hw4 : ((OX.make 1).ack (⟨OX.a.n, OX.a.x⟩ : Ov).n).whn ≤ 1000000 := by decide +kernel
  have hq : OX.a.x.eqv ⟨f15.v, ⟨#[120]⟩, f15.clip, f15.clips, f15.bells⟩ := Stt.eqv_iff.2 (by rw [fe15]; rfl)
  have hO1 : OX.a.n = 1 := rfl
  have hO2 : OX.b.n = 0 := rfl
  refine Body.seq ?_
  refine Body.region ?_
  refine Ops.u (Dtu.mv (lk rfl)) rfl ?_
  refine Ops.u (Dtu.eql (lk rfl) (lk rfl)) rfl ?_
  refine Ops.u (Dtu.mv (lk rfl)) rfl ?_
  refine Ops.decP 43 rfl (fun _ => ?_) (fun hn => absurd (by first | omega | assumption | decide) hn)
  refine Ops.gu rfl rfl rfl (Dtu.mv (lk rfl)) rfl ?_
  refine Ops.u (Dtu.pickT (lk rfl) (lk rfl)) rfl ?_
  refine Ops.u (Dtu.mv (lk rfl)) rfl ?_
  refine Ops.dec 46 rfl (fun _ => ?_) (fun hn => absurd hn (by first | (rw [hd]; decide) | simp [hd]))
  refine Ops.gu rfl rfl rfl (Dtu.mv (lk rfl)) rfl ?_
  refine Ops.gu rfl rfl rfl (Dtu.eql (lk rfl) (lk rfl)) rfl ?_
  refine Ops.u (Dtu.pickT (lk rfl) (lk rfl)) rfl ?_
  refine Ops.u (Dtu.mv (lk rfl)) rfl ?_
  refine Ops.decP 50 rfl (fun _ => ?_) (fun hn => absurd (by first | omega | assumption | decide) hn)
  refine Ops.gu rfl rfl rfl (Dtu.fld fa73_0 (lk rfl)) rfl ?_
  refine Ops.gd rfl rfl rfl (Det.ld Try.isAgg22 (lk rfl) (Rd.ow 4 rfl rfl)) rfl ?_
  refine Ops.gu rfl rfl rfl (Dtu.eql (lk rfl) (lk rfl)) rfl ?_
  refine Ops.u (Dtu.pickT (lk rfl) (lk rfl)) rfl ?_
  refine Ops.u (Dtu.mv (lk rfl)) rfl ?_
  refine Ops.decP 55 rfl (fun _ => ?_) (fun hn => absurd (by first | omega | assumption | decide) hn)
  refine Ops.gu rfl rfl rfl (Dtu.fld fa73_1 (lk rfl)) rfl ?_
  refine Ops.gd rfl rfl rfl (Det.ld Try.isAgg22 (lk rfl) (Rd.ow 4 rfl rfl)) rfl ?_
  refine Ops.gu rfl rfl rfl (Dtu.eql (lk rfl) (lk rfl)) rfl ?_
  refine Ops.u (Dtu.pickT (lk rfl) (lk rfl)) rfl ?_
  refine Ops.u (Dtu.mv (lk rfl)) rfl ?_
  refine Ops.decP 60 rfl (fun _ => ?_) (fun hn => absurd (by first | omega | assumption | decide) hn)
  refine Ops.gu rfl rfl rfl (Dtu.mv (lk rfl)) rfl ?_
  refine Ops.gu rfl rfl rfl (Dtu.eql (lk rfl) (lk rfl)) rfl ?_
  refine Ops.u (Dtu.pickT (lk rfl) (lk rfl)) rfl ?_
  refine Ops.u (Dtu.mv (lk rfl)) rfl ?_
  refine Ops.decP 64 rfl (fun _ => ?_) (fun hn => absurd (by first | omega | assumption | decide) hn)
  refine Ops.gu rfl rfl rfl (Dtu.mv (lk rfl)) rfl ?_
  refine Ops.gu rfl rfl rfl (Dtu.eql (lk rfl) (lk rfl)) rfl ?_
  refine Ops.u (Dtu.pickT (lk rfl) (lk rfl)) rfl ?_
  refine Ops.u (Dtu.mv (lk rfl)) rfl ?_
  refine Ops.decP 68 rfl (fun _ => ?_) (fun hn => absurd (by first | omega | assumption | decide) hn)
  refine Ops.gu rfl rfl rfl (Dtu.mv (lk rfl)) rfl ?_
  refine Ops.gu rfl rfl rfl (Dtu.eql (lk rfl) (lk rfl)) rfl ?_
  refine Ops.u (Dtu.pickT (lk rfl) (lk rfl)) rfl ?_
  refine Ops.u (Dtu.mv (lk rfl)) rfl ?_
  refine Ops.decP 72 rfl (fun _ => ?_) (fun hn => absurd (by first | omega | assumption | decide) hn)
  refine Ops.gd rfl rfl rfl (Det.lda Try.isAgg62 Try.sizeOf62 (lk rfl) (Rds.ow (m := 10) 1 rfl rfl) rfl) rfl ?_
  refine Ops.gd rfl rfl rfl (Det.lda Try.isAgg62 Try.sizeOf62 (lk rfl) (Rds.ow (m := 10) 6 rfl rfl) rfl) rfl ?_
  refine Ops.gs rfl rfl rfl (Stp.call rfl Try.call26 (lks rfl) (fun E' le hat => ssame_ok E' OX.a.x ⟨f15.v, ⟨#[120]⟩, f15.clip, f15.clips, f15.bells⟩ (.slice na35 nb35 nc35) (.slice fa15 fm15 fc15) (by first | exact Sl.hatI hat 0 rfl | exact Sl.hatI hat 1 rfl | exact Sl.hatI hat 2 rfl | exact Sl.hatI hat 3 rfl | exact Sl.hatI hat 4 rfl | exact Sl.hatI hat 5 rfl | exact Sl.hatI hat 6 rfl | exact Sl.hatI hat 7 rfl | exact Sl.hatI hat 8 rfl | exact Sl.hatI hat 9 rfl) (by first | exact Sl.hatI hat 0 rfl | exact Sl.hatI hat 1 rfl | exact Sl.hatI hat 2 rfl | exact Sl.hatI hat 3 rfl | exact Sl.hatI hat 4 rfl | exact Sl.hatI hat 5 rfl | exact Sl.hatI hat 6 rfl | exact Sl.hatI hat 7 rfl | exact Sl.hatI hat 8 rfl | exact Sl.hatI hat 9 rfl)) ?_) rfl
  rintro _ _ ⟨rfl, rfl⟩
  refine Ops.u (Dtu.pickT (lk rfl) (lk rfl)) rfl ?_
  refine Ops.u (Dtu.mv (lk rfl)) rfl ?_
  refine Ops.decP 77 rfl (fun _ => ?_) (fun hn => absurd (by first | omega | assumption | decide) hn)
  refine Ops.gu rfl rfl rfl (Dtu.mv (lk rfl)) rfl ?_
  refine Ops.gu rfl rfl rfl (Dtu.eql (lk rfl) (lk rfl)) rfl ?_
  refine Ops.u (Dtu.pickT (lk rfl) (lk rfl)) rfl ?_
  refine Ops.u (Dtu.mv (lk rfl)) rfl ?_
  refine Ops.decP 81 rfl (fun _ => ?_) (fun hn => absurd (by first | omega | assumption | decide) hn)
  refine Ops.gu rfl rfl rfl (Dtu.mv (lk rfl)) rfl ?_
  refine Ops.gs rfl rfl rfl (Stp.callOwn [0] rfl rfl Try.call34 (lks rfl) (fun E' le hat => base_s E' _ _) ?_) rfl
  rintro _ _ ⟨rfl, rfl⟩
  refine Ops.gu rfl rfl rfl (Dtu.eql (lk rfl) (lk rfl)) rfl ?_
  refine Ops.u (Dtu.pickT (lk rfl) (lk rfl)) rfl ?_
  refine Ops.u (Dtu.mv (lk rfl)) rfl ?_
  refine Ops.decP 86 rfl (fun _ => ?_) (fun hn => absurd (by first | omega | assumption | decide) hn)
  refine Ops.gu rfl rfl rfl (Dtu.mv (lk rfl)) rfl ?_
  refine Ops.gs rfl rfl rfl (Stp.callOwn [0] rfl rfl Try.call32 (lks rfl) (fun E' le hat => due_s E' _ _ _ _ (by first | with_reducible assumption | omega | assumption) (by first | with_reducible assumption | omega | assumption) (by first | with_reducible assumption | omega | assumption) (by first | with_reducible assumption | omega | assumption)) ?_) rfl
  rintro _ _ ⟨rfl, rfl⟩
  refine Ops.gu rfl rfl rfl (Dtu.not (lk rfl)) rfl ?_
  refine Ops.u (Dtu.pickT (lk rfl) (lk rfl)) rfl ?_
  refine Ops.u (Dtu.asg (lk rfl)) rfl ?_
  refine Ops.nil ?_
  refine Then.next ?_
  refine Body.ret ?_
  exact ⟨.inr rfl, _, pk [] rfl, rfl, rfl⟩
end Go.Proofs.Ytagcpamchgpgiaa
end
section
/- SyncBase: the walk. -/
namespace Go.Proofs.Ytagcpamchgpgiaa
set_option maxRecDepth 100000
set_option maxHeartbeats 4000000
set_option linter.unusedVariables false
set_option linter.unusedSimpArgs false
open Go.Sx

structure Sin where
  x : Stt
  s : Value
instance : Inhabited Sin := ⟨⟨Stt.first, .slice none 0 0⟩⟩
def Sin.enc (e : Sin) : List Value := [.int .i64 e.x.v.rows, .int .i64 e.x.v.cols, e.s, .int .i64 e.x.v.row, .int .i64 e.x.v.col, .bool e.x.v.vis, .string e.x.title, .string e.x.clip, .int .u64 e.x.clips, .int .u64 e.x.bells]
structure Sin.In (e : Sin) (E : Env) : Prop where
  has : e.x.v.has E [] e.s
  sl : IsSl e.s
  c : 0 ≤ e.x.clips
  b : 0 ≤ e.x.bells
  f : ∀ c ∈ e.x.v.cells, c.Fl
theorem Sin.In.mono {e : Sin} {E E' : Env} (h : e.In E) (le : E.Le E') : e.In E' := ⟨Sl.mono h.has le, h.sl, h.c, h.b, h.f⟩
theorem Sin.In.g {e : Sin} {E : Env} (h : e.In E) (hk : e.x.ok = true) : G e.x := ⟨hk, h.c, h.b, h.f⟩
theorem set_e (E : Env) (o : Nat) (O : Ot) (e : Sin) (he : e.In E) (hm : (O.a.n : Int) < 4611686018427387903) : Does Try.prog 24 #[.pointer (some ⟨o, 0, none⟩), .agg e.enc.toArray] E ([outP o O]) fun r H' => r = .int .i64 (if e.x.ok = true then 0 else 3) ∧ H' = [outP o (O.set e.x)] := by
  obtain ⟨x, s⟩ := e
  obtain ⟨sa, sm, sc, hs⟩ := he.sl
  subst hs
  exact set_s E o O x sa sm sc he.has he.c hm
theorem set_n (O : Ot) (x : Stt) : (O.set x).a.n ≤ O.a.n + 1 ∧ (O.set x).whn = O.whn := by
  unfold Ot.set; repeat' split
  all_goals exact ⟨by first | omega | (dsimp only; omega), rfl⟩
theorem ack_w (O : Ot) (n : Nat) : (O.ack n).whn = O.whn ∧ (O.ack n).a = O.a ∧ (O.ack n).last = O.last := by
  unfold Ot.ack; repeat' split
  all_goals exact ⟨rfl, rfl, rfl⟩
end Go.Proofs.Ytagcpamchgpgiaa
end
section
/- States as arguments: lists of them. -/
namespace Go.Proofs.Ytagcpamchgpgiaa
set_option maxRecDepth 100000
set_option linter.unusedVariables false
set_option linter.unusedSimpArgs false
open Go.Sx Go.ChangeShapes Go.RowKit Go.WideShapes

theorem cells1_9 : Try.prog.cellsOf 9 = 1 := by kernel_rfl
theorem cells1_22 : Try.prog.cellsOf 22 = 1 := by kernel_rfl
theorem cells10_62 : Try.prog.cellsOf 62 = 10 := by kernel_rfl
section
variable {H : Type} {enc : TypeId × Value → H} {W : World} {base : Nat} {held : Bool} {fuel : Nat} {cs : List Value} {x : DataW H × List MemPlace}
theorem trod_sin (h : DataW.trod enc Try.prog W base (fun _ => true) held fuel 62 cs = some x) : ∃ e : Sin, cs = e.enc ∧ e.In (envOf W) := by
  have hl := lenT Try.underlying62 h
  rw [cells10_62] at hl
  match cs, hl with
  | [v0, v1, v2, v3, v4, v5, v6, v7, v8, v9], _ =>
    obtain ⟨nv, yv, hv⟩ := fldT Try.underlying62 h 0 60 0 6 rfl rfl rfl cells6_60
    obtain ⟨n6, y6, h6⟩ := fldT Try.underlying62 h 1 9 6 1 rfl rfl rfl cells1_9
    obtain ⟨n7, y7, h7⟩ := fldT Try.underlying62 h 2 9 7 1 rfl rfl rfl cells1_9
    obtain ⟨n8, y8, h8⟩ := fldT Try.underlying62 h 3 22 8 1 rfl rfl rfl cells1_22
    obtain ⟨n9, y9, h9⟩ := fldT Try.underlying62 h 4 22 9 1 rfl rfl rfl cells1_22
    obtain ⟨n0, y0, h0⟩ := fldT Try.underlying60 hv 0 3 0 1 rfl rfl rfl cells1_3
    obtain ⟨n1, y1, h1⟩ := fldT Try.underlying60 hv 1 3 1 1 rfl rfl rfl cells1_3
    obtain ⟨n2, y2, h2⟩ := fldT Try.underlying60 hv 2 58 2 1 rfl rfl rfl cells1_58
    obtain ⟨n3, y3, h3⟩ := fldT Try.underlying60 hv 3 3 3 1 rfl rfl rfl cells1_3
    obtain ⟨n4, y4, h4⟩ := fldT Try.underlying60 hv 4 3 4 1 rfl rfl rfl cells1_3
    obtain ⟨n5, y5, h5⟩ := fldT Try.underlying60 hv 5 4 5 1 rfl rfl rfl cells1_4
    obtain ⟨a0, e0, _, w0⟩ := DataW.trod_int Try.underlying3 h0
    obtain ⟨a1, e1, _, w1⟩ := DataW.trod_int Try.underlying3 h1
    obtain ⟨s, cells, e2, hs, hc⟩ := trod_cells h2
    obtain ⟨a3, e3, _, w3⟩ := DataW.trod_int Try.underlying3 h3
    obtain ⟨a4, e4, _, w4⟩ := DataW.trod_int Try.underlying3 h4
    obtain ⟨b5, e5, _⟩ := DataW.trod_bool Try.underlying4 h5
    obtain ⟨s6, e6, _⟩ := DataW.trod_string Try.underlying9 h6
    obtain ⟨s7, e7, _⟩ := DataW.trod_string Try.underlying9 h7
    obtain ⟨a8, e8, _, w8⟩ := DataW.trod_int Try.underlying22 h8
    obtain ⟨a9, e9, _, w9⟩ := DataW.trod_int Try.underlying22 h9
    simp at e0 e1 e2 e3 e4 e5 e6 e7 e8 e9
    subst e0 e1 e2 e3 e4 e5 e6 e7 e8 e9
    have b8 := bounds_u64 w8
    have b9 := bounds_u64 w9
    have hsl : IsSl v2 := by
      obtain ⟨a, c, e⟩ := Sl.shape hs W St.all
      exact ⟨_, _, _, e⟩
    exact ⟨⟨⟨⟨a0, a1, cells, a3, a4, b5⟩, s6, s7, a8, a9⟩, v2⟩, rfl, ⟨hs, hsl, b8.1, b9.1, fun c h => (hc c h).Fl⟩⟩
end
end Go.Proofs.Ytagcpamchgpgiaa
end
section
/- sync: changes on their way; steps. -/
namespace Go.Proofs.Ytagcpamchgpgiaa
set_option maxRecDepth 100000
set_option maxHeartbeats 4000000
set_option linter.unusedVariables false
set_option linter.unusedSimpArgs false
open Go.Sx

structure Chg where
  b : Nat
  n : Nat
  d1 : Option Addr
  d2 : Nat
  d3 : Nat
  deriving Inhabited
def Chg.enc (c : Chg) : List Value := [.int .u64 (c.b : Nat), .int .u64 (c.n : Nat), .slice c.d1 c.d2 c.d3]
/-- what is known of a change: from which version to which one, and where its bytes are -/
structure Chg.Of (c : Chg) (V : List Stt) (L : List HProp) : Prop where
  ex : ∃ x y, V[c.b]? = some x ∧ V[c.n]? = some y ∧ osl 5 1 (.slice c.d1 c.d2 c.d3) (sdifB x y).length ((sdifB x y).map (.int .u8)) ∈ L
theorem Chg.Of.mono {c : Chg} {V W : List Stt} {L M : List HProp} (h : c.Of V L) (hV : ∀ (j : Nat) (x : Stt), V[j]? = some x → W[j]? = some x) (hL : ∀ A ∈ L, A ∈ M) : c.Of W M := by
  obtain ⟨x, y, h1, h2, h3⟩ := h.ex
  exact ⟨x, y, hV _ _ h1, hV _ _ h2, hL _ h3⟩
structure VV (V : List Stt) : Prop where
  z : V[0]? = some Stt.first
  g : ∀ x ∈ V, G x
theorem OI.vv {V : List Stt} {O : Ot} (h : OI V O) : VV V := ⟨h.z, h.g⟩
def takeE (I : Ov) (c : Chg) : Int := if c.n ≤ I.n then 23 else if c.b ≠ 0 ∧ c.b ≠ I.n then 30 else 0
def takeI (V : List Stt) (I : Ov) (c : Chg) : Ov := if c.n ≤ I.n then I else if c.b ≠ 0 ∧ c.b ≠ I.n then I else ⟨c.n, (V[c.n]?).getD Stt.first⟩
theorem takeI_in {V : List Stt} {I : Ov} {c : Chg} {L : List HProp} (h : V[I.n]? = some I.x) (hc : c.Of V L) : V[(takeI V I c).n]? = some (takeI V I c).x ∧ I.n ≤ (takeI V I c).n := by
  obtain ⟨x, y, h1, h2, h3⟩ := hc.ex
  unfold takeI
  repeat' split
  all_goals first | exact ⟨h, Nat.le_refl _⟩ | (refine ⟨?_, ?_⟩)
  · rw [h2]; rfl
  · dsimp only; omega
theorem take_s (E : Env) (i : Nat) (I : Ov) (c : Chg) (V : List Stt) (L : List HProp) (hV : VV V) (hI : V[I.n]? = some I.x) (hc : c.Of V L) (hL : ∀ A ∈ L, At A E) : Does Try.prog 28 #[.pointer (some ⟨i, 0, none⟩), .agg c.enc.toArray] E ([inP i I]) fun r H' => r = .int .i64 (takeE I c) ∧ H' = [inP i (takeI V I c)] := by
  obtain ⟨x, y, h1, h2, h3⟩ := hc.ex
  have hd := Sl.at (hL _ h3)
  have gx := hV.g _ (List.mem_of_getElem? h1)
  have gy := hV.g _ (List.mem_of_getElem? h2)
  unfold takeE takeI
  by_cases k1 : c.n ≤ I.n
  · rw [if_pos k1, if_pos k1]
    exact take_old E i I c.b c.n c.d1 c.d2 c.d3 k1
  · rw [if_neg k1, if_neg k1]
    by_cases k2 : c.b ≠ 0 ∧ c.b ≠ I.n
    · rw [if_pos k2, if_pos k2]
      exact take_base E i I c.b c.n c.d1 c.d2 c.d3 k1 k2.1 k2.2
    · rw [if_neg k2, if_neg k2, h2]
      refine take_ok E i I c.b c.n c.d1 c.d2 c.d3 x y (sdifB x y) k1 hd (sdif_byt gx gy) (Nat.le_trans (sdifB_most gx.1 gy.1) (by decide)) (hV.g _ (List.mem_of_getElem? hI)) ?_ (sapply_same gx gy)
      by_cases k3 : c.b = 0
      · left
        rw [k3, hV.z] at h1
        exact ⟨k3, (Option.some.inj h1).symm⟩
      · right
        have k4 : c.b = I.n := Decidable.byContradiction fun h => k2 ⟨k3, h⟩
        rw [k4, hI] at h1
        exact ⟨k3, k4, (Option.some.inj h1).symm⟩
theorem make_p (E : Env) (o : Nat) (O : Ot) (now : Int) (L : List HProp) (hka : G O.a.x) (hkb : O.b.x.ok = true) (hlen : O.l.length ≤ 32) : Does Try.prog 27 #[.pointer (some ⟨o, 0, none⟩), .int .i64 now] E ([outP o O, many L]) fun r H' => ∃ d1 d2 d3, r = .tuple #[.agg #[.int .u64 (O.b.n : Nat), .int .u64 (O.a.n : Nat), .slice d1 d2 d3], .int .i64 0] ∧ H' = [outP o (O.make now), many (osl 5 1 (.slice d1 d2 d3) (sdifB O.b.x O.a.x).length ((sdifB O.b.x O.a.x).map (.int .u8)) :: L)] := by
  refine Does.pst (Does.frm (Hc := [outP o O]) (Hf := [many L]) fun E' le hat => make_s E' o O now hka hkb hlen) ?_
  rintro r H' ⟨A, ⟨d1, d2, d3, rfl, rfl⟩, rfl⟩
  exact ⟨_, fun w s => (manyCons (s.perm (List.Perm.swap _ _ _ |>.trans (List.Perm.cons _ (List.Perm.swap _ _ _))))).perm (List.Perm.swap _ _ _), d1, d2, d3, rfl, rfl⟩
theorem take_p (E : Env) (i : Nat) (I : Ov) (c : Chg) (V : List Stt) (L : List HProp) (hV : VV V) (hI : V[I.n]? = some I.x) (hc : c.Of V L) : Does Try.prog 28 #[.pointer (some ⟨i, 0, none⟩), .agg c.enc.toArray] E ([inP i I, many L]) fun r H' => r = .int .i64 (takeE I c) ∧ H' = [inP i (takeI V I c), many L] := by
  refine Does.pst (Does.frm (Hc := [inP i I]) (Hf := [many L]) fun E' le hat => take_s E' i I c V L hV hI hc (at_many (hat _ (.head _)))) ?_
  rintro r H' ⟨A, ⟨rfl, rfl⟩, rfl⟩
  exact ⟨_, fun w s => s, rfl, rfl⟩
structure SStep where
  set : Bool
  send : Bool
  back : Bool
  e : Sin
  comes : Int
  acks : Int
  deriving Inhabited
def SStep.enc (x : SStep) : List Value := [.bool x.set, .bool x.send, .bool x.back, .int .i64 x.e.x.v.rows, .int .i64 x.e.x.v.cols, x.e.s, .int .i64 x.e.x.v.row, .int .i64 x.e.x.v.col, .bool x.e.x.v.vis, .string x.e.x.title, .string x.e.x.clip, .int .u64 x.e.x.clips, .int .u64 x.e.x.bells, .int .u8 x.comes, .int .u8 x.acks]
structure SStep.In (x : SStep) (E : Env) : Prop where
  e : x.e.In E
  c0 : 0 ≤ x.comes
  c1 : x.comes < 256
  a0 : 0 ≤ x.acks
  a1 : x.acks < 256
theorem SStep.In.one {x : SStep} {E : Env} (h : x.In E) : (x.enc).all (·.oneCell') = true := by
  rw [List.all_eq_true]
  intro y hy
  have := h.e.sl.one
  simp only [SStep.enc, List.mem_cons, List.not_mem_nil, or_false] at hy
  rcases hy with rfl | rfl | rfl | rfl | rfl | rfl | rfl | rfl | rfl | rfl | rfl | rfl | rfl | rfl | rfl <;> first | exact this | rfl
/-- the round that comes behind all: what it brings -/
theorem comes_round {V : List Stt} {O : Ot} {I : Ov} {L : List HProp} (hO : OI V O) (hI : V[I.n]? = some I.x) (h1 : O.b.n ≤ I.n) (h2 : I.n ≤ O.a.n) (now : Int) (c : Chg) (hb : c.b = O.b.n) (hn : c.n = O.a.n) :
    (O.make now).ackE (takeI V I c).n = 0 ∧ ((O.make now).ack (takeI V I c).n).a = O.a ∧ ((O.make now).ack (takeI V I c).n).last = O.a.n ∧
    ((O.make now).ack (takeI V I c).n).b.n ≤ (takeI V I c).n ∧ (takeI V I c).n ≤ O.a.n ∧
    (((O.make now).ack (takeI V I c).n).b.n = 0 ∨ ((O.make now).ack (takeI V I c).n).b.n = (takeI V I c).n) ∧
    (O.b.n = 0 ∨ O.b.n = I.n → (takeI V I c).n = O.a.n ∧ ((O.make now).ack (takeI V I c).n).b.n = O.a.n) := by
  have hm : (O.make now).b = O.b := rfl
  have ha : (O.make now).a = O.a := rfl
  have hle : I.n ≤ (takeI V I c).n ∧ (takeI V I c).n ≤ O.a.n := by
    unfold takeI
    repeat' split
    all_goals first | exact ⟨Nat.le_refl _, h2⟩ | (dsimp only; omega)
  have hnow := ack_now hO.bn now
  have hE : (O.make now).ackE (takeI V I c).n = 0 := by
    unfold Ot.ackE
    rw [hm, ha, if_neg (by omega), if_neg (by omega)]
  obtain ⟨w1, w2, w3⟩ := ack_w (O.make now) (takeI V I c).n
  have hB : ((O.make now).ack (takeI V I c).n).b.n = 0 ∨ ((O.make now).ack (takeI V I c).n).b.n = (takeI V I c).n := by
    unfold Ot.ack
    rw [hm, ha, if_neg (by omega), if_neg (by omega)]
    by_cases h : (takeI V I c).n = O.b.n
    · rw [if_pos h]; right; rw [h]; rfl
    · rw [if_neg h]
      cases hi : (O.make now).idx (takeI V I c).n with
      | none => left; rfl
      | some j => right; exact (idx_some hi).2.2
  refine ⟨hE, w2.trans ha, w3, ?_, hle.2, hB, fun hr => ?_⟩
  · rcases hB with h | h <;> omega
  · have ht : (takeI V I c).n = O.a.n := by
      by_cases k : c.n ≤ I.n
      · have : (takeI V I c).n = I.n := by unfold takeI; rw [if_pos k]
        omega
      · unfold takeI
        rw [if_neg k, if_neg (by omega)]
        exact hn
    refine ⟨ht, ?_⟩
    rw [ht]; exact hnow.2.1
end Go.Proofs.Ytagcpamchgpgiaa
end
