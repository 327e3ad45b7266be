/- The document's styles and cells out of bytes. -/
import Derived.Test.YtijjjdljdjnbaaaRefE
namespace Go.Proofs.Ytijjjdljdjnbaaa
set_option maxRecDepth 100000
set_option linter.unusedVariables false
set_option linter.unusedSimpArgs false
open Go.Sx

theorem col_min {x : Int} (h : 50331647 < x) : isCol (min x 2147483648) = false := by
  simp only [isCol, decide_eq_false_iff_not]; omega
theorem styleR_okSty (bs : List Int) (p : Int) (h : (styleR bs p).2.2 = 0) : okSty (styleR bs p).1.2.1 (styleR bs p).1.2.2 = true := by
  unfold styleR at h ⊢
  split
  · rename_i c; rw [if_pos c] at h; cases h
  · rename_i c; rw [if_neg c] at h
    split
    · rename_i c; rw [if_pos c] at h; cases h
    · rename_i c; rw [if_neg c] at h
      dsimp only at h ⊢
      split
      · rename_i c; rw [if_pos c] at h; exact absurd h c
      · rename_i c; rw [if_neg c] at h
        split
        · rename_i c; rw [if_pos c] at h; exact absurd h c
        · rename_i c; rw [if_neg c] at h
          split
          · rename_i c; exact c
          · rename_i c; rw [if_neg c] at h; cases h
def rstyV (s : Int × Int × Int) : Value := .agg (rsty s.1 s.2.1 s.2.2).toArray
theorem rstyRead_ok (E : Env) (b : Value) (bs : List Int) (p : Int) (h : Sl E [] 1 b bs.length (bs.map (.int .u8))) (hb : Byt bs) : Does Try.prog 79 #[b, .int .i64 p] E [] fun r H' =>
    r = .tuple #[rstyV (styleR bs p).1, .int .i64 (styleR bs p).2.1, .int .i64 (styleR bs p).2.2] ∧ H' = [] := by
  refine Does.pure h.len fun hlen => ?_
  refine Does.go (args := [b, .int .i64 p]) _ _ Try.func79 rfl Try.ntmps79 rfl rfl ?_
  refine Body.seq ?_
  refine Body.region ?_
  refine Ops.s (Stp.alloc ty63 (fun b4 => ?_)) rfl
  refine Ops.u (Dtu.asg (lk rfl)) rfl ?_
  refine Ops.u (Dtu.asg (lk rfl)) rfl ?_
  refine Ops.nil ?_
  refine Then.next ?_
  refine Body.seq ?_
  refine Body.seq ?_
  refine Body.region ?_
  refine Ops.u (Dtu.mv (lk rfl)) rfl ?_
  refine Ops.u (Dtu.lss (lk rfl) (lk rfl)) rfl ?_
  refine Ops.u (Dtu.mv (lk rfl)) rfl ?_
  refine Ops.decP 15 rfl (fun c15 => ?_) (fun c15 => ?_)
  · refine Ops.gn rfl rfl rfl rfl rfl ?_
    refine Ops.gn rfl rfl rfl rfl rfl ?_
    refine Ops.gn rfl rfl rfl rfl rfl ?_
    refine Ops.gn rfl rfl rfl rfl rfl ?_
    refine Ops.u (Dtu.pickT (lk rfl) (lk rfl)) rfl ?_
    refine Ops.nil ?_
    refine Then.next ?_
    refine Body.condT (lk rfl) ?_
    refine Body.seq ?_
    refine Body.region ?_
    refine Ops.u (Dtu.build ty63 pl63 (lkp rfl) rfl rfl) rfl ?_
    refine Ops.e (Stp.store 0 Try.sizeOf63 (lk rfl) (lk rfl) rfl rfl rfl rfl rfl rfl rfl ?_)
    refine Ops.u (Dtu.asg (lk rfl)) rfl ?_
    refine Ops.u (Dtu.asg (lk rfl)) rfl ?_
    refine Ops.nil ?_
    refine Then.next ?_
    refine Body.ret ?_
    refine Then.ret ?_
    refine ⟨.inr rfl, _, Loads.agg Try.isAgg63 Try.sizeOf63 (Rds.ow (m := 10) 0 rfl rfl) rfl, _, pk [] rfl, ?_, rfl⟩
    unfold styleR; rw [if_pos (by omega)]; rfl
  · refine Ops.gu rfl rfl rfl (Dtu.mv (lk rfl)) rfl ?_
    refine Ops.gu rfl rfl rfl (Dtu.mv (lk rfl)) rfl ?_
    refine Ops.gu rfl rfl rfl (Dtu.lenS Try.underlying32 (Sl.up h) (lk rfl)) rfl ?_
    refine Ops.gu rfl rfl rfl (Dtu.gtr (lk rfl) (lk rfl)) rfl ?_
    refine Ops.u (Dtu.pickF (lk rfl) (lk rfl)) rfl ?_
    refine Ops.nil ?_
    refine Then.next ?_
    refine Body.condP (lk rfl) (fun c20 => ?_) (fun c20 => ?_)
    · refine Body.seq ?_
      refine Body.region ?_
      refine Ops.u (Dtu.build ty63 pl63 (lkp rfl) rfl rfl) rfl ?_
      refine Ops.e (Stp.store 0 Try.sizeOf63 (lk rfl) (lk rfl) rfl rfl rfl rfl rfl rfl rfl ?_)
      refine Ops.u (Dtu.asg (lk rfl)) rfl ?_
      refine Ops.u (Dtu.asg (lk rfl)) rfl ?_
      refine Ops.nil ?_
      refine Then.next ?_
      refine Body.ret ?_
      refine Then.ret ?_
      refine ⟨.inr rfl, _, Loads.agg Try.isAgg63 Try.sizeOf63 (Rds.ow (m := 10) 0 rfl rfl) rfl, _, pk [] rfl, ?_, rfl⟩
      unfold styleR; rw [if_pos (by omega)]; rfl
    · refine Body.skip ?_
      refine Then.next ?_
      refine Body.seq ?_
      refine Body.seq ?_
      refine Body.region ?_
      refine Ops.u (Dtu.mv (lk rfl)) rfl ?_
      refine Ops.u (Dtu.mv (lk rfl)) rfl ?_
      refine Ops.u (Dtu.lenS Try.underlying32 (Sl.up h) (lk rfl)) rfl ?_
      refine Ops.u (Dtu.eql (lk rfl) (lk rfl)) rfl ?_
      refine Ops.nil ?_
      refine Then.next ?_
      refine Body.condP (lk rfl) (fun c25 => ?_) (fun c25 => ?_)
      · refine Body.seq ?_
        refine Body.region ?_
        refine Ops.u (Dtu.build ty63 pl63 (lkp rfl) rfl rfl) rfl ?_
        refine Ops.e (Stp.store 0 Try.sizeOf63 (lk rfl) (lk rfl) rfl rfl rfl rfl rfl rfl rfl ?_)
        refine Ops.u (Dtu.asg (lk rfl)) rfl ?_
        refine Ops.u (Dtu.asg (lk rfl)) rfl ?_
        refine Ops.nil ?_
        refine Then.next ?_
        refine Body.ret ?_
        refine Then.ret ?_
        refine ⟨.inr rfl, _, Loads.agg Try.isAgg63 Try.sizeOf63 (Rds.ow (m := 10) 0 rfl rfl) rfl, _, pk [] rfl, ?_, rfl⟩
        unfold styleR; rw [if_neg (by omega), if_pos (by omega)]; rfl
      · obtain ⟨q, rfl⟩ := Int.eq_ofNat_of_zero_le (show 0 ≤ p by omega)
        have hq : q < bs.length := by omega
        obtain ⟨q0, q1⟩ := hb q hq
        have a1 := getS_bound bs hb ((q : Int) + 1)
        have a2 := getS_bound bs hb (getS bs ((q : Int) + 1)).2.1
        have hst : styleR bs (q : Int) = (
            let g1 := getS bs ((q : Int) + 1)
            if g1.2.2 ≠ 0 then ((0, 0, 0), 0, g1.2.2)
            else
              let g2 := getS bs g1.2.1
              if g2.2.2 ≠ 0 then ((0, 0, 0), 0, g2.2.2)
              else
                let fg := min g1.1 2147483648
                let bg := min g2.1 2147483648
                if isCol fg && isCol bg then ((bs[q]!, fg, bg), g2.2.1, 0) else ((0, 0, 0), 0, 3)) := by
          unfold styleR
          rw [if_neg (by omega), if_neg (by omega)]
          simp only [Int.toNat_natCast]
        dsimp only at hst
        refine Body.skip ?_
        refine Then.next ?_
        refine Body.seq ?_
        refine Body.region ?_
        refine Ops.u (Dtu.mv (lk rfl)) rfl ?_
        refine Ops.u (Dtu.mv (lk rfl)) rfl ?_
        refine Ops.u (Dtu.add (lk rfl) (lk rfl) (w64 (by omega) (by omega))) rfl ?_
        refine Ops.s (Stp.call rfl Try.call66 (lks rfl) (fun E' le hat => rget_ok E' _ _ _ (Sl.mono (by assumption) le) (by assumption)) ?_) rfl
        rintro _ _ ⟨rfl, rfl⟩
        refine Ops.u (Dtu.mv (lk rfl)) rfl ?_
        refine Ops.u (Dtu.ext (lk rfl) rfl) rfl ?_
        refine Ops.u (Dtu.ext (lk rfl) rfl) rfl ?_
        refine Ops.u (Dtu.ext (lk rfl) rfl) rfl ?_
        refine Ops.u (Dtu.asg (lk rfl)) rfl ?_
        refine Ops.u (Dtu.asg (lk rfl)) rfl ?_
        refine Ops.u (Dtu.asg (lk rfl)) rfl ?_
        refine Ops.nil ?_
        refine Then.next ?_
        refine Body.seq ?_
        refine Body.seq ?_
        refine Body.region ?_
        refine Ops.u (Dtu.mv (lk rfl)) rfl ?_
        refine Ops.u (Dtu.neq (lk rfl) (lk rfl)) rfl ?_
        refine Ops.nil ?_
        refine Then.next ?_
        refine Body.condP (lk rfl) (fun c36 => ?_) (fun c36 => ?_)
        · refine Body.seq ?_
          refine Body.region ?_
          refine Ops.u (Dtu.build ty63 pl63 (lkp rfl) rfl rfl) rfl ?_
          refine Ops.u (Dtu.mv (lk rfl)) rfl ?_
          refine Ops.e (Stp.store 0 Try.sizeOf63 (lk rfl) (lk rfl) rfl rfl rfl rfl rfl rfl rfl ?_)
          refine Ops.u (Dtu.asg (lk rfl)) rfl ?_
          refine Ops.u (Dtu.asg (lk rfl)) rfl ?_
          refine Ops.nil ?_
          refine Then.next ?_
          refine Body.ret ?_
          refine Then.ret ?_
          refine ⟨.inr rfl, _, Loads.agg Try.isAgg63 Try.sizeOf63 (Rds.ow (m := 10) 0 rfl rfl) rfl, _, pk [] rfl, ?_, rfl⟩
          rw [hst, if_pos (by assumption)]; rfl
        · refine Body.skip ?_
          refine Then.next ?_
          refine Body.seq ?_
          refine Body.region ?_
          refine Ops.u (Dtu.mv (lk rfl)) rfl ?_
          refine Ops.u (Dtu.mv (lk rfl)) rfl ?_
          refine Ops.s (Stp.call rfl Try.call66 (lks rfl) (fun E' le hat => rget_ok E' _ _ _ (Sl.mono (by assumption) le) (by assumption)) ?_) rfl
          rintro _ _ ⟨rfl, rfl⟩
          refine Ops.u (Dtu.mv (lk rfl)) rfl ?_
          refine Ops.u (Dtu.ext (lk rfl) rfl) rfl ?_
          refine Ops.u (Dtu.ext (lk rfl) rfl) rfl ?_
          refine Ops.u (Dtu.ext (lk rfl) rfl) rfl ?_
          refine Ops.u (Dtu.asg (lk rfl)) rfl ?_
          refine Ops.u (Dtu.asg (lk rfl)) rfl ?_
          refine Ops.u (Dtu.asg (lk rfl)) rfl ?_
          refine Ops.nil ?_
          refine Then.next ?_
          refine Body.seq ?_
          refine Body.seq ?_
          refine Body.region ?_
          refine Ops.u (Dtu.mv (lk rfl)) rfl ?_
          refine Ops.u (Dtu.neq (lk rfl) (lk rfl)) rfl ?_
          refine Ops.nil ?_
          refine Then.next ?_
          refine Body.condP (lk rfl) (fun c47 => ?_) (fun c47 => ?_)
          · refine Body.seq ?_
            refine Body.region ?_
            refine Ops.u (Dtu.build ty63 pl63 (lkp rfl) rfl rfl) rfl ?_
            refine Ops.u (Dtu.mv (lk rfl)) rfl ?_
            refine Ops.e (Stp.store 0 Try.sizeOf63 (lk rfl) (lk rfl) rfl rfl rfl rfl rfl rfl rfl ?_)
            refine Ops.u (Dtu.asg (lk rfl)) rfl ?_
            refine Ops.u (Dtu.asg (lk rfl)) rfl ?_
            refine Ops.nil ?_
            refine Then.next ?_
            refine Body.ret ?_
            refine Then.ret ?_
            refine ⟨.inr rfl, _, Loads.agg Try.isAgg63 Try.sizeOf63 (Rds.ow (m := 10) 0 rfl rfl) rfl, _, pk [] rfl, ?_, rfl⟩
            rw [hst, if_neg (by assumption), if_pos (by assumption)]; rfl
          · generalize hX : (getS bs ((q : Int) + 1)).1 = X at *
            generalize hY : (getS bs (getS bs ((q : Int) + 1)).2.1).1 = Y at *
            refine Body.skip ?_
            refine Then.next ?_
            refine Body.seq ?_
            refine Body.seq ?_
            refine Body.region ?_
            refine Ops.u (Dtu.mv (lk rfl)) rfl ?_
            refine Ops.u (Dtu.gtr (lk rfl) (lk rfl)) rfl ?_
            refine Ops.u (Dtu.mv (lk rfl)) rfl ?_
            refine Ops.decP 52 rfl (fun c52 => ?_) (fun c52 => ?_)
            · refine Ops.gn rfl rfl rfl rfl rfl ?_
              refine Ops.gn rfl rfl rfl rfl rfl ?_
              refine Ops.u (Dtu.pickT (lk rfl) (lk rfl)) rfl ?_
              refine Ops.nil ?_
              refine Then.next ?_
              refine Body.condT (lk rfl) ?_
              refine Body.seq ?_
              refine Body.region ?_
              refine Ops.u (Dtu.build ty63 pl63 (lkp rfl) rfl rfl) rfl ?_
              refine Ops.e (Stp.store 0 Try.sizeOf63 (lk rfl) (lk rfl) rfl rfl rfl rfl rfl rfl rfl ?_)
              refine Ops.u (Dtu.asg (lk rfl)) rfl ?_
              refine Ops.u (Dtu.asg (lk rfl)) rfl ?_
              refine Ops.nil ?_
              refine Then.next ?_
              refine Body.ret ?_
              refine Then.ret ?_
              refine ⟨.inr rfl, _, Loads.agg Try.isAgg63 Try.sizeOf63 (Rds.ow (m := 10) 0 rfl rfl) rfl, _, pk [] rfl, ?_, rfl⟩
              rw [hst, if_neg (by assumption), if_neg (by assumption), if_neg (by
                rw [col_min (x := X) (by omega)]; simp)]; rfl
            · refine Ops.gu rfl rfl rfl (Dtu.mv (lk rfl)) rfl ?_
              refine Ops.gu rfl rfl rfl (Dtu.gtr (lk rfl) (lk rfl)) rfl ?_
              refine Ops.u (Dtu.pickF (lk rfl) (lk rfl)) rfl ?_
              refine Ops.nil ?_
              refine Then.next ?_
              refine Body.condP (lk rfl) (fun c55 => ?_) (fun c55 => ?_)
              · refine Body.seq ?_
                refine Body.region ?_
                refine Ops.u (Dtu.build ty63 pl63 (lkp rfl) rfl rfl) rfl ?_
                refine Ops.e (Stp.store 0 Try.sizeOf63 (lk rfl) (lk rfl) rfl rfl rfl rfl rfl rfl rfl ?_)
                refine Ops.u (Dtu.asg (lk rfl)) rfl ?_
                refine Ops.u (Dtu.asg (lk rfl)) rfl ?_
                refine Ops.nil ?_
                refine Then.next ?_
                refine Body.ret ?_
                refine Then.ret ?_
                refine ⟨.inr rfl, _, Loads.agg Try.isAgg63 Try.sizeOf63 (Rds.ow (m := 10) 0 rfl rfl) rfl, _, pk [] rfl, ?_, rfl⟩
                rw [hst, if_neg (by assumption), if_neg (by assumption), if_neg (by
                  rw [col_min (x := Y) (by omega)]; simp)]; rfl
              · rw [show min X 2147483648 = X by omega, show min Y 2147483648 = Y by omega] at hst
                refine Body.skip ?_
                refine Then.next ?_
                refine Body.seq ?_
                refine Body.region ?_
                refine Ops.u (Dtu.mv (lk rfl)) rfl ?_
                refine Ops.u (Dtu.mv (lk rfl)) rfl ?_
                refine Ops.u (Dtu.ix (i := (q)) Try.underlying32 Try.sizeOf5 (Sl.up h) (lk rfl) (lk rfl) (by omega) (by omega)) rfl ?_
                refine Ops.d (Det.ld Try.isAgg5 (lk rfl) (Rd.sl (Sl.up h) (gm (by omega)))) rfl ?_
                refine Ops.u (Dtu.mv (lk rfl)) rfl ?_
                refine Ops.u (Dtu.cvt Try.underlying75 Try.underlying51 (lk rfl) (wu32 (by omega) (by omega))) rfl ?_
                refine Ops.u (Dtu.mv (lk rfl)) rfl ?_
                refine Ops.u (Dtu.cvt Try.underlying75 Try.underlying51 (lk rfl) (wu32 (by omega) (by omega))) rfl ?_
                refine Ops.s (Stp.call rfl Try.call117 (lks rfl) (fun E' le hat => rof_ok E' _ _ _ (by first | assumption | omega) (by first | assumption | omega)) ?_) rfl
                rintro _ _ ⟨rfl, rfl⟩
                refine Ops.s (Stp.alloc ty63 (fun b12 => ?_)) rfl
                refine Ops.e (Stp.store 0 Try.sizeOf63 (lk rfl) (lk rfl) rfl rfl rfl rfl rfl rfl rfl ?_)
                refine Ops.nil ?_
                refine Then.next ?_
                refine Body.seq ?_
                refine Body.seq ?_
                refine Body.region ?_
                refine Ops.d (Det.lda Try.isAgg63 Try.sizeOf63 (lk rfl) (Rds.ow (m := 10) 0 rfl rfl) rfl) rfl ?_
                refine Ops.s (Stp.call rfl Try.call81 (lks rfl) (fun E' le hat => rstyRight_ok E' _ _ _ (by first | assumption | omega) (by first | assumption | omega) (by first | assumption | omega) (by first | assumption | omega)) ?_) rfl
                rintro _ _ ⟨rfl, rfl⟩
                refine Ops.u (Dtu.not (lk rfl)) rfl ?_
                refine Ops.nil ?_
                refine Then.next ?_
                refine Body.cond (lk rfl) (fun c68 => ?_) (fun c68 => ?_)
                · refine Body.seq ?_
                  refine Body.region ?_
                  refine Ops.u (Dtu.build ty63 pl63 (lkp rfl) rfl rfl) rfl ?_
                  refine Ops.e (Stp.store 1 Try.sizeOf63 (lk rfl) (lk rfl) rfl rfl rfl rfl rfl rfl rfl ?_)
                  refine Ops.u (Dtu.asg (lk rfl)) rfl ?_
                  refine Ops.u (Dtu.asg (lk rfl)) rfl ?_
                  refine Ops.nil ?_
                  refine Then.next ?_
                  refine Body.ret ?_
                  refine Then.ret ?_
                  refine ⟨.inr rfl, _, Loads.agg Try.isAgg63 Try.sizeOf63 (Rds.ow (m := 10) 1 rfl rfl) rfl, _, pk [] rfl, ?_, rfl⟩
                  rw [hst, if_neg (by assumption), if_neg (by assumption), if_neg (fun hh => by have hh' : okSty X Y = true := hh; simp [hh'] at c68)]; rfl
                · refine Body.skip ?_
                  refine Then.next ?_
                  refine Body.seq ?_
                  refine Body.region ?_
                  refine Ops.d (Det.lda Try.isAgg63 Try.sizeOf63 (lk rfl) (Rds.ow (m := 10) 0 rfl rfl) rfl) rfl ?_
                  refine Ops.u (Dtu.mv (lk rfl)) rfl ?_
                  refine Ops.u (Dtu.mv (lk rfl)) rfl ?_
                  refine Ops.e (Stp.store 1 Try.sizeOf63 (lk rfl) (lk rfl) rfl rfl rfl rfl rfl rfl rfl ?_)
                  refine Ops.u (Dtu.asg (lk rfl)) rfl ?_
                  refine Ops.u (Dtu.asg (lk rfl)) rfl ?_
                  refine Ops.nil ?_
                  refine Then.next ?_
                  refine Body.ret ?_
                  refine ⟨.inr rfl, _, Loads.agg Try.isAgg63 Try.sizeOf63 (Rds.ow (m := 10) 1 rfl rfl) rfl, _, pk [] rfl, ?_, rfl⟩
                  rw [hst, if_neg (by assumption), if_neg (by assumption), if_pos (by simpa [okSty] using c68)]
                  have e0 : (getS bs (getS bs ((q : Int) + 1)).2.1).2.2 = 0 := by omega
                  show Value.tuple #[_, _, .int .i64 (getS bs (getS bs ((q : Int) + 1)).2.1).2.2] = _
                  rw [e0]; rfl
theorem rgetCell_ok (E : Env) (b : Value) (bs : List Int) (p : Int) (h : Sl E [] 1 b bs.length (bs.map (.int .u8))) (hb : Byt bs) : Does Try.prog 35 #[b, .int .i64 p] E [] fun r H' =>
    r = .tuple #[.agg (cellR bs p).1.renc.toArray, .int .i64 (cellR bs p).2.1, .int .i64 (cellR bs p).2.2] ∧ H' = [] := by
  refine Does.pure h.len fun hlen => ?_
  have hst : cellR bs p = (if (styleR bs p).2.2 ≠ 0 then (⟨0, 0, 0, 0⟩, 0, (styleR bs p).2.2) else if (getS bs (styleR bs p).2.1).2.2 ≠ 0 then (⟨0, 0, 0, 0⟩, 0, (getS bs (styleR bs p).2.1).2.2)
    else if (Cell.ok ⟨min (getS bs (styleR bs p).2.1).1 1114112, (styleR bs p).1.1, (styleR bs p).1.2.1, (styleR bs p).1.2.2⟩) then (⟨min (getS bs (styleR bs p).2.1).1 1114112, (styleR bs p).1.1, (styleR bs p).1.2.1, (styleR bs p).1.2.2⟩, (getS bs (styleR bs p).2.1).2.1, 0) else (⟨0, 0, 0, 0⟩, 0, 3)) := rfl
  have a1 := getS_bound bs hb (styleR bs p).2.1
  refine Does.go (args := [b, .int .i64 p]) _ _ Try.func35 rfl Try.ntmps35 rfl rfl ?_
  refine Body.seq ?_
  refine Body.region ?_
  refine Ops.s (Stp.alloc ty65 (fun b4 => ?_)) rfl
  refine Ops.u (Dtu.asg (lk rfl)) rfl ?_
  refine Ops.u (Dtu.asg (lk rfl)) rfl ?_
  refine Ops.nil ?_
  refine Then.next ?_
  refine Body.seq ?_
  refine Body.region ?_
  refine Ops.u (Dtu.mv (lk rfl)) rfl ?_
  refine Ops.u (Dtu.mv (lk rfl)) rfl ?_
  refine Ops.s (Stp.call rfl Try.call79 (lks rfl) (fun E' le hat => rstyRead_ok E' _ _ _ (Sl.mono (by assumption) le) (by assumption)) ?_) rfl
  rintro _ _ ⟨rfl, rfl⟩
  refine Ops.u (Dtu.mv (lk rfl)) rfl ?_
  refine Ops.u (Dtu.ext (lk rfl) rfl) rfl ?_
  refine Ops.u (Dtu.ext (lk rfl) rfl) rfl ?_
  refine Ops.u (Dtu.ext (lk rfl) rfl) rfl ?_
  refine Ops.s (Stp.alloc ty63 (fun b7 => ?_)) rfl
  refine Ops.e (Stp.store 0 Try.sizeOf63 (lk rfl) (lk rfl) rfl rfl rfl rfl rfl rfl rfl ?_)
  refine Ops.u (Dtu.asg (lk rfl)) rfl ?_
  refine Ops.u (Dtu.asg (lk rfl)) rfl ?_
  refine Ops.nil ?_
  refine Then.next ?_
  refine Body.seq ?_
  refine Body.seq ?_
  refine Body.region ?_
  refine Ops.u (Dtu.mv (lk rfl)) rfl ?_
  refine Ops.u (Dtu.neq (lk rfl) (lk rfl)) rfl ?_
  refine Ops.nil ?_
  refine Then.next ?_
  refine Body.condP (lk rfl) (fun c20 => ?_) (fun c20 => ?_)
  · refine Body.seq ?_
    refine Body.region ?_
    refine Ops.u (Dtu.build ty65 pl65 (lkp rfl) rfl rfl) rfl ?_
    refine Ops.u (Dtu.mv (lk rfl)) rfl ?_
    refine Ops.e (Stp.store 1 Try.sizeOf65 (lk rfl) (lk rfl) rfl rfl rfl rfl rfl rfl rfl ?_)
    refine Ops.u (Dtu.asg (lk rfl)) rfl ?_
    refine Ops.u (Dtu.asg (lk rfl)) rfl ?_
    refine Ops.nil ?_
    refine Then.next ?_
    refine Body.ret ?_
    refine Then.ret ?_
    refine ⟨.inr rfl, _, Loads.agg Try.isAgg65 Try.sizeOf65 (Rds.ow (m := 11) 1 rfl rfl) rfl, _, pk [] rfl, ?_, rfl⟩
    rw [hst, if_pos (by assumption)]; rfl
  · refine Body.skip ?_
    refine Then.next ?_
    refine Body.seq ?_
    refine Body.region ?_
    refine Ops.u (Dtu.mv (lk rfl)) rfl ?_
    refine Ops.u (Dtu.mv (lk rfl)) rfl ?_
    refine Ops.s (Stp.call rfl Try.call66 (lks rfl) (fun E' le hat => rget_ok E' _ _ _ (Sl.mono (by assumption) le) (by assumption)) ?_) rfl
    rintro _ _ ⟨rfl, rfl⟩
    refine Ops.u (Dtu.mv (lk rfl)) rfl ?_
    refine Ops.u (Dtu.ext (lk rfl) rfl) rfl ?_
    refine Ops.u (Dtu.ext (lk rfl) rfl) rfl ?_
    refine Ops.u (Dtu.ext (lk rfl) rfl) rfl ?_
    refine Ops.u (Dtu.asg (lk rfl)) rfl ?_
    refine Ops.u (Dtu.asg (lk rfl)) rfl ?_
    refine Ops.u (Dtu.asg (lk rfl)) rfl ?_
    refine Ops.nil ?_
    refine Then.next ?_
    refine Body.seq ?_
    refine Body.seq ?_
    refine Body.region ?_
    refine Ops.u (Dtu.mv (lk rfl)) rfl ?_
    refine Ops.u (Dtu.neq (lk rfl) (lk rfl)) rfl ?_
    refine Ops.nil ?_
    refine Then.next ?_
    refine Body.condP (lk rfl) (fun c31 => ?_) (fun c31 => ?_)
    · refine Body.seq ?_
      refine Body.region ?_
      refine Ops.u (Dtu.build ty65 pl65 (lkp rfl) rfl rfl) rfl ?_
      refine Ops.u (Dtu.mv (lk rfl)) rfl ?_
      refine Ops.e (Stp.store 1 Try.sizeOf65 (lk rfl) (lk rfl) rfl rfl rfl rfl rfl rfl rfl ?_)
      refine Ops.u (Dtu.asg (lk rfl)) rfl ?_
      refine Ops.u (Dtu.asg (lk rfl)) rfl ?_
      refine Ops.nil ?_
      refine Then.next ?_
      refine Body.ret ?_
      refine Then.ret ?_
      refine ⟨.inr rfl, _, Loads.agg Try.isAgg65 Try.sizeOf65 (Rds.ow (m := 11) 1 rfl rfl) rfl, _, pk [] rfl, ?_, rfl⟩
      rw [hst, if_neg (by assumption), if_pos (by assumption)]; rfl
    · generalize hX : (getS bs (styleR bs p).2.1).1 = X at *
      refine Body.skip ?_
      refine Then.next ?_
      refine Body.seq ?_
      refine Body.seq ?_
      refine Body.region ?_
      refine Ops.u (Dtu.mv (lk rfl)) rfl ?_
      refine Ops.u (Dtu.gtr (lk rfl) (lk rfl)) rfl ?_
      refine Ops.u (Dtu.mv (lk rfl)) rfl ?_
      refine Ops.decP 36 rfl (fun c36 => ?_) (fun c36 => ?_)
      · refine Ops.gn rfl rfl rfl rfl rfl ?_
        refine Ops.gn rfl rfl rfl rfl rfl ?_
        refine Ops.gn rfl rfl rfl rfl rfl ?_
        refine Ops.gn rfl rfl rfl rfl rfl ?_
        refine Ops.u (Dtu.pickT (lk rfl) (lk rfl)) rfl ?_
        refine Ops.nil ?_
        refine Then.next ?_
        refine Body.condT (lk rfl) ?_
        refine Body.seq ?_
        refine Body.region ?_
        refine Ops.u (Dtu.build ty65 pl65 (lkp rfl) rfl rfl) rfl ?_
        refine Ops.e (Stp.store 1 Try.sizeOf65 (lk rfl) (lk rfl) rfl rfl rfl rfl rfl rfl rfl ?_)
        refine Ops.u (Dtu.asg (lk rfl)) rfl ?_
        refine Ops.u (Dtu.asg (lk rfl)) rfl ?_
        refine Ops.nil ?_
        refine Then.next ?_
        refine Body.ret ?_
        refine Then.ret ?_
        refine ⟨.inr rfl, _, Loads.agg Try.isAgg65 Try.sizeOf65 (Rds.ow (m := 11) 1 rfl rfl) rfl, _, pk [] rfl, ?_, rfl⟩
        have e : isPt (min X 1114112) = false := by simp only [isPt, decide_eq_false_iff_not]; omega
        rw [hst, if_neg (by assumption), if_neg (by assumption), if_neg (by simp [Cell.ok, okCell, e])]; rfl
      · rw [show min X 1114112 = X by omega] at hst
        refine Ops.gu rfl rfl rfl (Dtu.mv (lk rfl)) rfl ?_
        refine Ops.gu rfl rfl rfl (Dtu.cvt Try.underlying75 Try.underlying21 (lk rfl) (w32 (by omega) (by omega))) rfl ?_
        refine Ops.gs rfl rfl rfl (Stp.call rfl Try.call80 (lks rfl) (fun E' le hat => ris_ok E' _) ?_) rfl
        rintro _ _ ⟨rfl, rfl⟩
        refine Ops.gu rfl rfl rfl (Dtu.not (lk rfl)) rfl ?_
        refine Ops.u (Dtu.pickF (lk rfl) (lk rfl)) rfl ?_
        refine Ops.nil ?_
        refine Then.next ?_
        refine Body.cond (lk rfl) (fun c41 => ?_) (fun c41 => ?_)
        · refine Body.seq ?_
          refine Body.region ?_
          refine Ops.u (Dtu.build ty65 pl65 (lkp rfl) rfl rfl) rfl ?_
          refine Ops.e (Stp.store 1 Try.sizeOf65 (lk rfl) (lk rfl) rfl rfl rfl rfl rfl rfl rfl ?_)
          refine Ops.u (Dtu.asg (lk rfl)) rfl ?_
          refine Ops.u (Dtu.asg (lk rfl)) rfl ?_
          refine Ops.nil ?_
          refine Then.next ?_
          refine Body.ret ?_
          refine Then.ret ?_
          refine ⟨.inr rfl, _, Loads.agg Try.isAgg65 Try.sizeOf65 (Rds.ow (m := 11) 1 rfl rfl) rfl, _, pk [] rfl, ?_, rfl⟩
          rw [hst, if_neg (by assumption), if_neg (by assumption), if_neg (by simp [Cell.ok, okCell]; intro hh; simp [hh] at c41)]; rfl
        · refine Body.skip ?_
          refine Then.next ?_
          refine Body.seq ?_
          refine Body.region ?_
          refine Ops.u (Dtu.mv (lk rfl)) rfl ?_
          refine Ops.u (Dtu.cvt Try.underlying75 Try.underlying21 (lk rfl) (w32 (by omega) (by omega))) rfl ?_
          refine Ops.d (Det.lda Try.isAgg63 Try.sizeOf63 (lk rfl) (Rds.ow (m := 10) 0 rfl rfl) rfl) rfl ?_
          refine Ops.u (Dtu.build ty65 pl65 (lkp rfl) rfl rfl) rfl ?_
          refine Ops.u (Dtu.mv (lk rfl)) rfl ?_
          refine Ops.u (Dtu.mv (lk rfl)) rfl ?_
          refine Ops.e (Stp.store 1 Try.sizeOf65 (lk rfl) (lk rfl) rfl rfl rfl rfl rfl rfl rfl ?_)
          refine Ops.u (Dtu.asg (lk rfl)) rfl ?_
          refine Ops.u (Dtu.asg (lk rfl)) rfl ?_
          refine Ops.nil ?_
          refine Then.next ?_
          refine Body.ret ?_
          refine ⟨.inr rfl, _, Loads.agg Try.isAgg65 Try.sizeOf65 (Rds.ow (m := 11) 1 rfl rfl) rfl, _, pk [] rfl, ?_, rfl⟩
          have hp : isPt X = true := by simpa using c41
          have e0 : (getS bs (styleR bs p).2.1).2.2 = 0 := by omega
          rw [hst, if_neg (by assumption), if_neg (by assumption), if_pos (by simp only [Cell.ok, okCell, hp, styleR_okSty bs p (by omega), Bool.and_self])]
          show Value.tuple #[_, _, .int .i64 (getS bs (styleR bs p).2.1).2.2] = _
          rw [e0]; rfl
end Go.Proofs.Ytijjjdljdjnbaaa
