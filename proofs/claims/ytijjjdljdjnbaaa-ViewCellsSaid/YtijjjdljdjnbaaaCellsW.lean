/- ViewCells: what it computes. -/
import Derived.Test.YtijjjdljdjnbaaaRefG
namespace Go.Proofs.Ytijjjdljdjnbaaa
set_option maxRecDepth 100000
set_option linter.unusedVariables false
set_option linter.unusedSimpArgs false
open Go.Sx

set_option maxHeartbeats 1600000 in
theorem cells_ok (E : Env) (c : Cell) (b : Value) (bs : List Int) (p : Int) (hc : c.Fl) (hg : 0 ≤ c.fg ∧ c.fg < 4294967296 ∧ 0 ≤ c.bg ∧ c.bg < 4294967296) (hb : Sl E [] 1 b bs.length (bs.map (.int .u8))) (hbt : Byt bs) :
    Does Try.prog 8 #[.agg c.enc.toArray, b, .int .i64 p] E [] fun r H' => r = .bool true ∧ H' = [] := by
  have hd := cellR_fl bs hbt p
  have hself := reqB_self (cellR bs p).1
  obtain ⟨f0, f1⟩ := hc
  obtain ⟨d0, d1⟩ := hd
  refine Does.go (args := [.agg c.enc.toArray, b, .int .i64 p]) _ _ Try.func8 rfl Try.ntmps8 rfl rfl ?_
  refine Body.seq ?_
  refine Body.region ?_
  refine Ops.s (Stp.box (lk rfl) rfl (fun b3 => ?_)) rfl
  refine Ops.u (Dtu.asg (lk rfl)) rfl ?_
  refine Ops.nil ?_
  refine Then.next ?_
  refine Body.seq ?_
  refine Body.seq ?_
  refine Body.region ?_
  refine Ops.u (Dtu.mv (lk rfl)) rfl ?_
  refine Ops.u (Dtu.lenS Try.underlying32 (Sl.up hb) (lk rfl)) rfl ?_
  refine Ops.u (Dtu.gtr (lk rfl) (lk rfl)) rfl ?_
  refine Ops.nil ?_
  refine Then.next ?_
  refine Body.condP (lk rfl) (fun c18 => ?_) (fun c18 => ?_)
  · refine Body.seq ?_
    refine Body.region ?_
    refine Ops.s (Stp.call rfl Try.call27 (lks rfl) (fun E' le hat => alive20_ok E') ?_) rfl
    rintro _ _ ⟨rfl, rfl⟩
    refine Ops.u (Dtu.asg (lk rfl)) rfl ?_
    refine Ops.nil ?_
    refine Then.next ?_
    refine Body.ret ?_
    refine Then.ret ?_
    exact ⟨.inr rfl, _, pk [] rfl, rfl, rfl⟩
  · by_cases hok : c.ok = true
    · refine Body.skip ?_
      refine Then.next ?_
      refine Body.seq ?_
      refine Body.region ?_
      refine Ops.d (Det.lda Try.isAgg55 Try.sizeOf55 (lk rfl) (Rds.ow (m := 4) 0 rfl rfl) rfl) rfl ?_
      refine Ops.s (Stp.call rfl Try.call32 (lks rfl) (fun E' le hat => cell17_ok E' _ _ _ _ (by first | assumption | omega) (by first | assumption | omega)) ?_) rfl
      rintro _ _ ⟨rfl, rfl⟩
      refine Ops.s (Stp.alloc ty65 (fun b7 => ?_)) rfl
      refine Ops.e (Stp.store 0 Try.sizeOf65 (lk rfl) (lk rfl) rfl rfl rfl rfl rfl rfl rfl ?_)
      refine Ops.nil ?_
      refine Then.next ?_
      refine Body.seq ?_
      refine Body.region ?_
      refine Ops.d (Det.lda Try.isAgg55 Try.sizeOf55 (lk rfl) (Rds.ow (m := 4) 1 rfl rfl) rfl) rfl ?_
      refine Ops.s (Stp.call rfl Try.call33 (lks rfl) (fun E' le hat => putCell_ok E' _ (by assumption)) ?_) rfl
      rintro _ _ ⟨s24, hz24, rfl, rfl⟩
      refine Ops.u (Dtu.mv (lk rfl)) rfl ?_
      refine Ops.u (Dtu.ext (lk rfl) rfl) rfl ?_
      refine Ops.u (Dtu.ext (lk rfl) rfl) rfl ?_
      refine Ops.u (Dtu.asg (lk rfl)) rfl ?_
      refine Ops.u (Dtu.asg (lk rfl)) rfl ?_
      refine Ops.nil ?_
      refine Then.next ?_
      refine Body.seq ?_
      refine Body.region ?_
      refine Ops.u (Dtu.mv (lk rfl)) rfl ?_
      refine Ops.u (Dtu.mv (lk rfl)) rfl ?_
      refine Ops.s (Stp.call rfl Try.call34 (lks rfl) (fun E' le hat => getCell_ok E' _ _ _ (Sl.mono (by assumption) le) (by assumption)) ?_) rfl
      rintro _ _ ⟨rfl, rfl⟩
      refine Ops.u (Dtu.mv (lk rfl)) rfl ?_
      refine Ops.u (Dtu.ext (lk rfl) rfl) rfl ?_
      refine Ops.u (Dtu.ext (lk rfl) rfl) rfl ?_
      refine Ops.u (Dtu.ext (lk rfl) rfl) rfl ?_
      refine Ops.s (Stp.alloc ty55 (fun b10 => ?_)) rfl
      refine Ops.e (Stp.store 0 Try.sizeOf55 (lk rfl) (lk rfl) rfl rfl rfl rfl rfl rfl rfl ?_)
      refine Ops.u (Dtu.asg (lk rfl)) rfl ?_
      refine Ops.u (Dtu.asg (lk rfl)) rfl ?_
      refine Ops.nil ?_
      refine Then.next ?_
      refine Body.seq ?_
      refine Body.region ?_
      refine Ops.u (Dtu.mv (lk rfl)) rfl ?_
      refine Ops.u (Dtu.mv (lk rfl)) rfl ?_
      refine Ops.s (Stp.call rfl Try.call35 (lks rfl) (fun E' le hat => rgetCell_ok E' _ _ _ (Sl.mono (by assumption) le) (by assumption)) ?_) rfl
      rintro _ _ ⟨rfl, rfl⟩
      refine Ops.u (Dtu.mv (lk rfl)) rfl ?_
      refine Ops.u (Dtu.ext (lk rfl) rfl) rfl ?_
      refine Ops.u (Dtu.ext (lk rfl) rfl) rfl ?_
      refine Ops.u (Dtu.ext (lk rfl) rfl) rfl ?_
      refine Ops.s (Stp.alloc ty65 (fun b13 => ?_)) rfl
      refine Ops.e (Stp.store 0 Try.sizeOf65 (lk rfl) (lk rfl) rfl rfl rfl rfl rfl rfl rfl ?_)
      refine Ops.u (Dtu.asg (lk rfl)) rfl ?_
      refine Ops.u (Dtu.asg (lk rfl)) rfl ?_
      refine Ops.nil ?_
      refine Then.next ?_
      refine Body.seq ?_
      refine Body.seq ?_
      refine Body.draw mixed ?_
      refine AB.d 0 rfl (by decide +kernel) rfl (Det.lda Try.isAgg55 Try.sizeOf55 (lk rfl) (Rds.ow (m := 4) 1 rfl rfl) rfl) rfl ?_
      refine AB.d 2 rfl (by decide +kernel) rfl (Det.lda Try.isAgg65 Try.sizeOf65 (lk rfl) (Rds.ow (m := 11) 0 rfl rfl) rfl) rfl ?_
      refine AB.s 1 rfl (by decide +kernel) (by decide +kernel) (Stp.call rfl Try.call32 (lks rfl) (fun E' le hat => cell17_ok E' _ _ _ _ (by first | assumption | omega) (by first | assumption | omega)) ?_) rfl
      rintro _ _ ⟨rfl, rfl⟩
      refine AB.u 3 rfl (by decide +kernel) (Dtu.neS eqGuard65 (eq65 _ _) (lk rfl) (lk rfl)) rfl ?_
      refine AB.u 4 rfl (by decide +kernel) (Dtu.mv (lk rfl)) rfl ?_
      refine AB.dec 45 rfl (fun hn => absurd hn (by simp [hself])) (fun _ => ?_)
      refine AB.gu 5 rfl (by decide +kernel) rfl rfl rfl (Dtu.mv (lk rfl)) rfl ?_
      refine AB.gu 6 rfl (by decide +kernel) rfl rfl rfl (Dtu.mv (lk rfl)) rfl ?_
      refine AB.gu 7 rfl (by decide +kernel) rfl rfl rfl (Dtu.neq (lk rfl) (lk rfl)) rfl ?_
      refine AB.u 8 rfl (by decide +kernel) (Dtu.pickF (lk rfl) (lk rfl)) rfl ?_
      refine AB.u 9 rfl (by decide +kernel) (Dtu.mv (lk rfl)) rfl ?_
      refine AB.decP 50 rfl (fun hy => absurd hy (by first | omega | assumption | decide)) (fun _ => ?_)
      refine AB.gu 10 rfl (by decide +kernel) rfl rfl rfl (Dtu.mv (lk rfl)) rfl ?_
      refine AB.gu 11 rfl (by decide +kernel) rfl rfl rfl (Dtu.mv (lk rfl)) rfl ?_
      refine AB.gu 12 rfl (by decide +kernel) rfl rfl rfl (Dtu.neq (lk rfl) (lk rfl)) rfl ?_
      refine AB.u 13 rfl (by decide +kernel) (Dtu.pickF (lk rfl) (lk rfl)) rfl ?_
      refine AB.done (by decide +kernel) ?_
      refine Then.next ?_
      refine Body.condP (lk rfl) (fun hy => absurd hy (by first | omega | assumption | decide)) (fun _ => ?_)
      refine Body.skip ?_
      refine Then.next ?_
      refine Body.seq ?_
      refine Body.seq ?_
      refine Body.region ?_
      refine Ops.d (Det.lda Try.isAgg65 Try.sizeOf65 (lk rfl) (Rds.ow (m := 11) 3 rfl rfl) rfl) rfl ?_
      refine Ops.s (Stp.call rfl Try.call36 (lks rfl) (fun E' le hat => risCell_ok E' ⟨_, _, _, _⟩ (by assumption)) ?_) rfl
      rintro _ _ ⟨rfl, rfl⟩
      refine Ops.u (Dtu.not (lk rfl)) rfl ?_
      refine Ops.nil ?_
      refine Then.next ?_
      refine Body.cond (lk rfl) (fun hn => absurd hn (by simp [hok])) (fun _ => ?_)
      refine Body.skip ?_
      refine Then.next ?_
      refine Body.seq ?_
      refine Body.draw mixed ?_
      refine AB.s 0 rfl (by decide +kernel) (by decide +kernel) (Stp.call rfl Try.call27 (lks rfl) (fun E' le hat => alive20_ok E') ?_) rfl
      rintro _ _ ⟨rfl, rfl⟩
      refine AB.u 1 rfl (by decide +kernel) (Dtu.mv (lk rfl)) rfl ?_
      refine AB.gu 2 rfl (by decide +kernel) rfl rfl rfl (Dtu.mv (lk rfl)) rfl ?_
      refine AB.gu 3 rfl (by decide +kernel) rfl rfl rfl (Dtu.eql (lk rfl) (lk rfl)) rfl ?_
      refine AB.u 4 rfl (by decide +kernel) (Dtu.pickT (lk rfl) (lk rfl)) rfl ?_
      refine AB.u 5 rfl (by decide +kernel) (Dtu.mv (lk rfl)) rfl ?_
      refine AB.decP 73 rfl (fun _ => ?_) (fun hn => absurd (by first | omega | assumption | decide) hn)
      refine AB.gu 6 rfl (by decide +kernel) rfl rfl rfl (Dtu.mv (lk rfl)) rfl ?_
      refine AB.gd 7 rfl (by decide +kernel) rfl rfl rfl rfl (Det.bstr Try.underlying32 Try.underlying5 Try.underlying9 (lk rfl) (Sl.osl 2 rfl)) rfl ?_
      refine AB.gd 8 rfl (by decide +kernel) rfl rfl rfl rfl (Det.lda Try.isAgg65 Try.sizeOf65 (lk rfl) (Rds.ow (m := 11) 3 rfl rfl) rfl) rfl ?_
      refine AB.gs 9 rfl (by decide +kernel) (by decide +kernel) rfl rfl rfl (Stp.call rfl Try.call37 (lks rfl) (fun E' le hat => rputCell_ok E' ⟨_, _, _, _⟩ (by constructor <;> assumption) (by assumption)) ?_) rfl
      rintro _ _ ⟨s77, hz77, rfl, rfl⟩
      refine AB.gd 10 rfl (by decide +kernel) rfl rfl rfl rfl (Det.bstr Try.underlying32 Try.underlying5 Try.underlying9 (lk rfl) (Sl.osl 0 rfl)) rfl ?_
      refine AB.gu 11 rfl (by decide +kernel) rfl rfl rfl (Dtu.eqStr (lk rfl) (lk rfl)) rfl ?_
      refine AB.u 12 rfl (by decide +kernel) (Dtu.pickT (lk rfl) (lk rfl)) rfl ?_
      refine AB.u 13 rfl (by decide +kernel) (Dtu.asg (lk rfl)) rfl ?_
      refine AB.done (by decide +kernel) ?_
      refine Then.next ?_
      refine Body.ret ?_
      exact ⟨.inr rfl, _, pk [] rfl, congrArg Value.bool (decide_eq_true rfl), rfl⟩
    · have hno : c.ok = false := by simpa using hok
      refine Body.skip ?_
      refine Then.next ?_
      refine Body.seq ?_
      refine Body.region ?_
      refine Ops.d (Det.lda Try.isAgg55 Try.sizeOf55 (lk rfl) (Rds.ow (m := 4) 0 rfl rfl) rfl) rfl ?_
      refine Ops.s (Stp.call rfl Try.call32 (lks rfl) (fun E' le hat => cell17_ok E' _ _ _ _ (by first | assumption | omega) (by first | assumption | omega)) ?_) rfl
      rintro _ _ ⟨rfl, rfl⟩
      refine Ops.s (Stp.alloc ty65 (fun b7 => ?_)) rfl
      refine Ops.e (Stp.store 0 Try.sizeOf65 (lk rfl) (lk rfl) rfl rfl rfl rfl rfl rfl rfl ?_)
      refine Ops.nil ?_
      refine Then.next ?_
      refine Body.seq ?_
      refine Body.region ?_
      refine Ops.d (Det.lda Try.isAgg55 Try.sizeOf55 (lk rfl) (Rds.ow (m := 4) 1 rfl rfl) rfl) rfl ?_
      refine Ops.s (Stp.call rfl Try.call33 (lks rfl) (fun E' le hat => putCell_no E' _ (by assumption)) ?_) rfl
      rintro _ _ ⟨rfl, rfl⟩
      refine Ops.u (Dtu.mv (lk rfl)) rfl ?_
      refine Ops.u (Dtu.ext (lk rfl) rfl) rfl ?_
      refine Ops.u (Dtu.ext (lk rfl) rfl) rfl ?_
      refine Ops.u (Dtu.asg (lk rfl)) rfl ?_
      refine Ops.u (Dtu.asg (lk rfl)) rfl ?_
      refine Ops.nil ?_
      refine Then.next ?_
      refine Body.seq ?_
      refine Body.region ?_
      refine Ops.u (Dtu.mv (lk rfl)) rfl ?_
      refine Ops.u (Dtu.mv (lk rfl)) rfl ?_
      refine Ops.s (Stp.call rfl Try.call34 (lks rfl) (fun E' le hat => getCell_ok E' _ _ _ (Sl.mono (by assumption) le) (by assumption)) ?_) rfl
      rintro _ _ ⟨rfl, rfl⟩
      refine Ops.u (Dtu.mv (lk rfl)) rfl ?_
      refine Ops.u (Dtu.ext (lk rfl) rfl) rfl ?_
      refine Ops.u (Dtu.ext (lk rfl) rfl) rfl ?_
      refine Ops.u (Dtu.ext (lk rfl) rfl) rfl ?_
      refine Ops.s (Stp.alloc ty55 (fun b10 => ?_)) rfl
      refine Ops.e (Stp.store 0 Try.sizeOf55 (lk rfl) (lk rfl) rfl rfl rfl rfl rfl rfl rfl ?_)
      refine Ops.u (Dtu.asg (lk rfl)) rfl ?_
      refine Ops.u (Dtu.asg (lk rfl)) rfl ?_
      refine Ops.nil ?_
      refine Then.next ?_
      refine Body.seq ?_
      refine Body.region ?_
      refine Ops.u (Dtu.mv (lk rfl)) rfl ?_
      refine Ops.u (Dtu.mv (lk rfl)) rfl ?_
      refine Ops.s (Stp.call rfl Try.call35 (lks rfl) (fun E' le hat => rgetCell_ok E' _ _ _ (Sl.mono (by assumption) le) (by assumption)) ?_) rfl
      rintro _ _ ⟨rfl, rfl⟩
      refine Ops.u (Dtu.mv (lk rfl)) rfl ?_
      refine Ops.u (Dtu.ext (lk rfl) rfl) rfl ?_
      refine Ops.u (Dtu.ext (lk rfl) rfl) rfl ?_
      refine Ops.u (Dtu.ext (lk rfl) rfl) rfl ?_
      refine Ops.s (Stp.alloc ty65 (fun b13 => ?_)) rfl
      refine Ops.e (Stp.store 0 Try.sizeOf65 (lk rfl) (lk rfl) rfl rfl rfl rfl rfl rfl rfl ?_)
      refine Ops.u (Dtu.asg (lk rfl)) rfl ?_
      refine Ops.u (Dtu.asg (lk rfl)) rfl ?_
      refine Ops.nil ?_
      refine Then.next ?_
      refine Body.seq ?_
      refine Body.seq ?_
      refine Body.draw mixed ?_
      refine AB.d 0 rfl (by decide +kernel) rfl (Det.lda Try.isAgg55 Try.sizeOf55 (lk rfl) (Rds.ow (m := 4) 1 rfl rfl) rfl) rfl ?_
      refine AB.d 2 rfl (by decide +kernel) rfl (Det.lda Try.isAgg65 Try.sizeOf65 (lk rfl) (Rds.ow (m := 11) 0 rfl rfl) rfl) rfl ?_
      refine AB.s 1 rfl (by decide +kernel) (by decide +kernel) (Stp.call rfl Try.call32 (lks rfl) (fun E' le hat => cell17_ok E' _ _ _ _ (by first | assumption | omega) (by first | assumption | omega)) ?_) rfl
      rintro _ _ ⟨rfl, rfl⟩
      refine AB.u 3 rfl (by decide +kernel) (Dtu.neS eqGuard65 (eq65 _ _) (lk rfl) (lk rfl)) rfl ?_
      refine AB.u 4 rfl (by decide +kernel) (Dtu.mv (lk rfl)) rfl ?_
      refine AB.dec 45 rfl (fun hn => absurd hn (by simp [hself])) (fun _ => ?_)
      refine AB.gu 5 rfl (by decide +kernel) rfl rfl rfl (Dtu.mv (lk rfl)) rfl ?_
      refine AB.gu 6 rfl (by decide +kernel) rfl rfl rfl (Dtu.mv (lk rfl)) rfl ?_
      refine AB.gu 7 rfl (by decide +kernel) rfl rfl rfl (Dtu.neq (lk rfl) (lk rfl)) rfl ?_
      refine AB.u 8 rfl (by decide +kernel) (Dtu.pickF (lk rfl) (lk rfl)) rfl ?_
      refine AB.u 9 rfl (by decide +kernel) (Dtu.mv (lk rfl)) rfl ?_
      refine AB.decP 50 rfl (fun hy => absurd hy (by first | omega | assumption | decide)) (fun _ => ?_)
      refine AB.gu 10 rfl (by decide +kernel) rfl rfl rfl (Dtu.mv (lk rfl)) rfl ?_
      refine AB.gu 11 rfl (by decide +kernel) rfl rfl rfl (Dtu.mv (lk rfl)) rfl ?_
      refine AB.gu 12 rfl (by decide +kernel) rfl rfl rfl (Dtu.neq (lk rfl) (lk rfl)) rfl ?_
      refine AB.u 13 rfl (by decide +kernel) (Dtu.pickF (lk rfl) (lk rfl)) rfl ?_
      refine AB.done (by decide +kernel) ?_
      refine Then.next ?_
      refine Body.condP (lk rfl) (fun hy => absurd hy (by first | omega | assumption | decide)) (fun _ => ?_)
      refine Body.skip ?_
      refine Then.next ?_
      refine Body.seq ?_
      refine Body.seq ?_
      refine Body.region ?_
      refine Ops.d (Det.lda Try.isAgg65 Try.sizeOf65 (lk rfl) (Rds.ow (m := 11) 2 rfl rfl) rfl) rfl ?_
      refine Ops.s (Stp.call rfl Try.call36 (lks rfl) (fun E' le hat => risCell_ok E' ⟨_, _, _, _⟩ (by assumption)) ?_) rfl
      rintro _ _ ⟨rfl, rfl⟩
      refine Ops.u (Dtu.not (lk rfl)) rfl ?_
      refine Ops.nil ?_
      refine Then.next ?_
      refine Body.cond (lk rfl) (fun _ => ?_) (fun hn => absurd hn (by simp [hno]))
      refine Body.seq ?_
      refine Body.region ?_
      refine Ops.s (Stp.call rfl Try.call27 (lks rfl) (fun E' le hat => alive20_ok E') ?_) rfl
      rintro _ _ ⟨rfl, rfl⟩
      refine Ops.u (Dtu.mv (lk rfl)) rfl ?_
      refine Ops.gu rfl rfl rfl (Dtu.mv (lk rfl)) rfl ?_
      refine Ops.gu rfl rfl rfl (Dtu.eql (lk rfl) (lk rfl)) rfl ?_
      refine Ops.u (Dtu.pickT (lk rfl) (lk rfl)) rfl ?_
      refine Ops.u (Dtu.mv (lk rfl)) rfl ?_
      refine Ops.decP 63 rfl (fun _ => ?_) (fun hn => absurd (by first | omega | assumption | decide) hn)
      refine Ops.gu rfl rfl rfl (Dtu.mv (lk rfl)) rfl ?_
      refine Ops.gu rfl rfl rfl (Dtu.len Try.underlying32 (lk rfl)) rfl ?_
      refine Ops.gu rfl rfl rfl (Dtu.eql (lk rfl) (lk rfl)) rfl ?_
      refine Ops.u (Dtu.pickT (lk rfl) (lk rfl)) rfl ?_
      refine Ops.u (Dtu.asg (lk rfl)) rfl ?_
      refine Ops.nil ?_
      refine Then.next ?_
      refine Body.ret ?_
      refine Then.ret ?_
      exact ⟨.inr rfl, _, pk [] rfl, rfl, rfl⟩
end Go.Proofs.Ytijjjdljdjnbaaa
