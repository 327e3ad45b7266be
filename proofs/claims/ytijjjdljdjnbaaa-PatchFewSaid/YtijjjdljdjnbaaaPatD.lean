/- Patches: Diff of views that may be. -/
import Derived.Test.YtijjjdljdjnbaaaPatC
namespace Go.Proofs.Ytijjjdljdjnbaaa
set_option maxRecDepth 100000
set_option linter.unusedVariables false
set_option linter.unusedSimpArgs false
open Go.Sx

set_option maxHeartbeats 3200000 in
theorem diff_ok (E : Env) (a b : View) (s t : Value) (ha : a.has E [] s) (hb : b.has E [] t) (ka : a.ok = true) (kb : b.ok = true) : Does Try.prog 17 #[a.val s, b.val t] E [] fun r H' => ∃ s', r = .tuple #[s', .int .i64 0] ∧ H' = [osl 5 1 s' (difB a b).length ((difB a b).map (.int .u8))] := by
  unfold View.has at ha hb
  obtain ⟨fa, oa⟩ := View.ok_fits ka
  obtain ⟨fb, ob⟩ := View.ok_fits kb
  have hma := mul_bound fa.1
  have hla : a.cells.length ≤ 480 := by have := fa.2.2.2.2.2; omega
  obtain ⟨hrc, f1, f2, f3, f4, f5⟩ := fb
  have hmb := mul_bound hrc
  refine Does.pure ha.isSl fun hs => ?_
  obtain ⟨sa, sm, sc, rfl⟩ := hs
  refine Does.pure hb.isSl fun hs => ?_
  obtain ⟨ta, tm, tc, rfl⟩ := hs
  have hbl : (baseC a b.rows b.cols).length = b.cells.length := by
    unfold baseC
    split
    · rename_i h; have := fa.2.2.2.2.2; rw [h.1, h.2] at this; omega
    · rw [List.length_replicate]; omega
  have hbase := fun (E' : Env) (le : Env.Le E E') => base_ok E' a (.slice sa sm sc) b.rows b.cols (Sl.mono ha le) hla (by omega)
  have hD : difB a b = b.head ++ (difR 0 [] ((baseC a b.rows b.cols).zip b.cells)).flatMap encR := rfl
  generalize difB a b = D at *
  generalize hbc : baseC a b.rows b.cols = bc at *
  refine Does.go (args := [a.val _, b.val _]) _ _ Try.func17 rfl Try.ntmps17 rfl rfl ?_
  refine Body.seq ?_
  refine Body.region ?_
  refine Ops.s (Stp.box (lk rfl) rfl (fun b2 => ?_)) rfl
  refine Ops.s (Stp.box (lk rfl) rfl (fun b3 => ?_)) rfl
  refine Ops.u (Dtu.asg (lk rfl)) rfl ?_
  refine Ops.u (Dtu.asg (lk rfl)) rfl ?_
  refine Ops.nil ?_
  refine Then.next ?_
  refine Body.seq ?_
  refine Body.seq ?_
  refine Body.region ?_
  refine Ops.d (Det.lda Try.isAgg24 Try.sizeOf24 (lk rfl) (Rds.ow (m := 6) 1 rfl rfl) rfl) rfl ?_
  refine Ops.s (Stp.call rfl Try.call25 (lks rfl) (fun E' le hat => right_ok E' ⟨_, _, _, _, _, _⟩ _ (Sl.mono (by assumption) le)) ?_) rfl
  rintro _ _ ⟨rfl, rfl⟩
  refine Ops.u (Dtu.not (lk rfl)) rfl ?_
  refine Ops.u (Dtu.mv (lk rfl)) rfl ?_
  refine Ops.dec 18 rfl (fun hn => absurd hn (by simp [ka])) (fun _ => ?_)
  refine Ops.gd rfl rfl rfl (Det.lda Try.isAgg24 Try.sizeOf24 (lk rfl) (Rds.ow (m := 6) 0 rfl rfl) rfl) rfl ?_
  refine Ops.gs rfl rfl rfl (Stp.call rfl Try.call25 (lks rfl) (fun E' le hat => right_ok E' ⟨_, _, _, _, _, _⟩ _ (Sl.mono (by assumption) le)) ?_) rfl
  rintro _ _ ⟨rfl, rfl⟩
  refine Ops.gu rfl rfl rfl (Dtu.not (lk rfl)) rfl ?_
  refine Ops.u (Dtu.pickF (lk rfl) (lk rfl)) rfl ?_
  refine Ops.nil ?_
  refine Then.next ?_
  refine Body.cond (lk rfl) (fun hn => absurd hn (by simp [kb])) (fun _ => ?_)
  refine Body.skip ?_
  refine Then.next ?_
  refine Body.seq ?_
  refine Body.region ?_
  refine Ops.u (Dtu.fld fa24_0 (lk rfl)) rfl ?_
  refine Ops.d (Det.ld Try.isAgg3 (lk rfl) (Rd.ow 0 rfl rfl)) rfl ?_
  refine Ops.u (Dtu.cvt Try.underlying3 Try.underlying5 (lk rfl) (wu8 (by omega) (by omega))) rfl ?_
  refine Ops.u (Dtu.fld fa24_1 (lk rfl)) rfl ?_
  refine Ops.d (Det.ld Try.isAgg3 (lk rfl) (Rd.ow 0 rfl rfl)) rfl ?_
  refine Ops.u (Dtu.cvt Try.underlying3 Try.underlying5 (lk rfl) (wu8 (by omega) (by omega))) rfl ?_
  refine Ops.u (Dtu.fld fa24_3 (lk rfl)) rfl ?_
  refine Ops.d (Det.ld Try.isAgg3 (lk rfl) (Rd.ow 0 rfl rfl)) rfl ?_
  refine Ops.u (Dtu.cvt Try.underlying3 Try.underlying5 (lk rfl) (wu8 (by omega) (by omega))) rfl ?_
  refine Ops.u (Dtu.fld fa24_4 (lk rfl)) rfl ?_
  refine Ops.d (Det.ld Try.isAgg3 (lk rfl) (Rd.ow 0 rfl rfl)) rfl ?_
  refine Ops.u (Dtu.cvt Try.underlying3 Try.underlying5 (lk rfl) (wu8 (by omega) (by omega))) rfl ?_
  refine Ops.s (Stp.buildSliceO Try.underlying32 ty5 (by decide) (by decide) (lkp rfl) rfl rfl rfl (by decide) (fun v35 => ?_)) rfl
  refine Ops.u (Dtu.asg (lk rfl)) rfl ?_
  refine Ops.nil ?_
  refine Then.next ?_
  refine Body.seqJ (γ := Unit) rfl (fun _ => [(6, v35)]) (fun _ => [osl 5 1 v35 5 (b.head.map (.int .u8)), own b3 [.int .i64 b.rows, .int .i64 b.cols, .slice ta tm tc, .int .i64 b.row, .int .i64 b.col, .bool b.vis] 24, own b2 [.int .i64 a.rows, .int .i64 a.cols, .slice sa sm sc, .int .i64 a.row, .int .i64 a.col, .bool a.vis] 24]) (fun _ => True) ?_ ?_
  · refine Body.seq ?_
    refine Body.region ?_
    refine Ops.u (Dtu.fld fa24_5 (lk rfl)) rfl ?_
    refine Ops.d (Det.ld Try.isAgg4 (lk rfl) (Rd.ow 1 rfl rfl)) rfl ?_
    refine Ops.nil ?_
    refine Then.next ?_
    refine Body.cond (lk rfl) (fun c37 => ?_) (fun c37 => ?_)
    · refine Body.region ?_
      refine Ops.u (Dtu.mv (lk rfl)) rfl ?_
      refine Ops.u (Dtu.ix (i := 4) Try.underlying32 Try.sizeOf5 (Sl.osl 0 rfl) (lk rfl) (lk rfl) (by omega) (by omega)) rfl ?_
      refine Ops.e (Stp.storeS 0 (us := [_]) Try.sizeOf5 rfl (lk rfl) (lk rfl) rfl (by simp <;> omega) (by simp) rfl ?_)
      refine Ops.nil ?_
      exact Joint.goK [0, 0, 0] () rfl rfl rfl ⟨rfl, trivial⟩ rfl (by simp [View.head, c37]) trivial
    · refine Body.skip ?_
      exact Joint.goK [0, 0, 0] () rfl rfl rfl ⟨rfl, trivial⟩ rfl (by simp [View.head, c37]) trivial
  · intro _ u _
    have hb0 : b.head.length = 5 := rfl
    refine Body.seq ?_
    refine Body.region ?_
    refine Ops.d (Det.lda Try.isAgg24 Try.sizeOf24 (lk rfl) (Rds.ow (m := 6) 2 rfl rfl) rfl) rfl ?_
    refine Ops.u (Dtu.fld fa24_0 (lk rfl)) rfl ?_
    refine Ops.d (Det.ld Try.isAgg3 (lk rfl) (Rd.ow 1 rfl rfl)) rfl ?_
    refine Ops.u (Dtu.fld fa24_1 (lk rfl)) rfl ?_
    refine Ops.d (Det.ld Try.isAgg3 (lk rfl) (Rd.ow 1 rfl rfl)) rfl ?_
    refine Ops.s (Stp.call rfl Try.call58 (lks rfl) (fun E' le hat => hbase E' le) ?_) rfl
    rintro _ _ ⟨wa, wm, wc, rfl, rfl⟩
    refine Ops.u (Dtu.asg (lk rfl)) rfl ?_
    refine Ops.nil ?_
    refine Then.next ?_
    refine Body.seq ?_
    refine Body.region ?_
    refine Ops.u (Dtu.asg (lk rfl)) rfl ?_
    refine Ops.nil ?_
    refine Then.next ?_
    refine Body.seq ?_
    refine Body.seq ?_
    refine Body.region ?_
    refine Ops.u (Dtu.asg (lk rfl)) rfl ?_
    refine Ops.nil ?_
    refine Then.next ?_
    refine Body.block ?_
    have hP : (bc.zip b.cells).length = b.cells.length := by simp [hbl]
    have hPi : ∀ i, i < b.cells.length → (bc.zip b.cells)[i]!.1 = bc[i]! ∧ (bc.zip b.cells)[i]!.2 = b.cells[i]! := fun i hi => zip_at hbl hi
    generalize bc.zip b.cells = P at *
    generalize hys : b.cells = ys at *
    refine Body.loopF (γ := Nat × Nat × Value × List Int) rfl (fun g => [(9, .int .i64 g.1), (8, .int .i64 g.2.1), (6, g.2.2.1)])
      (fun g => [osl 55 4 (.slice wa wm wc) bc.length (bc.flatMap Cell.enc), osl 5 1 g.2.2.1 g.2.2.2.length (g.2.2.2.map (.int .u8)), own b3 [.int .i64 b.rows, .int .i64 b.cols, .slice ta tm tc, .int .i64 b.row, .int .i64 b.col, .bool b.vis] 24, own b2 [.int .i64 a.rows, .int .i64 a.cols, .slice sa sm sc, .int .i64 a.row, .int .i64 a.col, .bool a.vis] 24])
      (fun g => g.1 ≤ ys.length + 1 ∧ g.2.1 ≤ g.1 ∧ g.2.2.2 ++ (difR (g.1 - g.2.1) [] (P.drop g.1)).flatMap encR = D ∧ g.2.2.2.length ≤ 5 + 41 * g.1) (fun g => ys.length + 1 - g.1) (0, 0, v35, b.head) ⟨by simp, by simp, by simp [hD], by simp [hb0]⟩ ⟨rfl, rfl, rfl, trivial⟩ rfl ?_
    rintro ⟨i, l, O, bs⟩ u ⟨hi, hl, hbs, hn⟩
    dsimp only at hi hl hbs hn ⊢
    refine Body.seq ?_
    refine Body.seq ?_
    refine Body.region ?_
    refine Ops.u (Dtu.mv (lk rfl)) rfl ?_
    refine Ops.u (Dtu.mv (lk rfl)) rfl ?_
    refine Ops.u (Dtu.lenS Try.underlying22 (Sl.osl 0 rfl) (lk rfl)) rfl ?_
    refine Ops.u (Dtu.lss (lk rfl) (lk rfl)) rfl ?_
    refine Ops.nil ?_
    refine Then.next ?_
    refine Body.condP (lk rfl) (fun c49 => ?_) (fun c49 => ?_)
    · obtain ⟨p1, p2⟩ := hPi i (by omega)
      refine Body.skip ?_
      refine Then.next ?_
      refine Body.seq ?_
      refine Body.block ?_
      refine Body.seq ?_
      refine Body.seq ?_
      refine Body.draw mixed ?_
      refine AB.u 0 rfl (by decide +kernel) (Dtu.mv (lk rfl)) rfl ?_
      refine AB.u 1 rfl (by decide +kernel) (Dtu.mv (lk rfl)) rfl ?_
      refine AB.u 2 rfl (by decide +kernel) (Dtu.ix (i := (i)) Try.underlying22 Try.sizeOf55 (Sl.osl 0 rfl) (lk rfl) (lk rfl) (by omega) (by omega)) rfl ?_
      refine AB.d 3 rfl (by decide +kernel) rfl (Det.lda Try.isAgg55 Try.sizeOf55 (lk rfl) (Rds.sl (Sl.osl 0 rfl) (gf (sz := 4) (fun _ => rfl) (by omega))) rfl) rfl ?_
      refine AB.u 4 rfl (by decide +kernel) (Dtu.fld fa24_2 (lk rfl)) rfl ?_
      refine AB.d 5 rfl (by decide +kernel) rfl (Det.ld Try.isAgg22 (lk rfl) (Rd.ow 2 rfl rfl)) rfl ?_
      refine AB.u 6 rfl (by decide +kernel) (Dtu.mv (lk rfl)) rfl ?_
      refine AB.u 7 rfl (by decide +kernel) (Dtu.ix (i := (i)) Try.underlying22 Try.sizeOf55 (Sl.up hb) (lk rfl) (lk rfl) (by omega) (by omega)) rfl ?_
      refine AB.d 8 rfl (by decide +kernel) rfl (Det.lda Try.isAgg55 Try.sizeOf55 (lk rfl) (Rds.sl (Sl.up hb) (gf (sz := 4) (fun _ => rfl) (by omega))) rfl) rfl ?_
      refine AB.u 9 rfl (by decide +kernel) (Dtu.eqS eqGuard55 (eq55 _ _) (lk rfl) (lk rfl)) rfl ?_
      refine AB.done (by decide +kernel) ?_
      refine Then.next ?_
      refine Body.condP (lk rfl) (fun c61 => ?_) (fun c61 => ?_)
      · refine Body.exit ?_
        refine Then.exit ?_
        refine Blk.here ?_
        refine Then.next ?_
        refine Body.region ?_
        refine Ops.u (Dtu.mv (lk rfl)) rfl ?_
        refine Ops.u (Dtu.add (lk rfl) (lk rfl) (w64 (by omega) (by omega))) rfl ?_
        refine Ops.u (Dtu.asg (lk rfl)) rfl ?_
        refine Ops.nil ?_
        refine Round.goK [0, 0, 0, 0] (i + 1, l, O, bs) rfl rfl rfl ⟨int_eq (by simp), rfl, rfl, trivial⟩ rfl rfl ⟨by dsimp only; omega, by dsimp only; omega, ?_, by dsimp only; omega⟩ (by dsimp only; omega)
        dsimp only
        rw [← hbs, difR_eq (P := P) (i := i) (by omega) (by rw [p1, p2]; simpa using c61), show i + 1 - l = i - l + 1 by omega]
      · have hne : ¬ P[i]!.1 = P[i]!.2 := by rw [p1, p2]; simpa using c61
        refine Body.skip ?_
        refine Then.next ?_
        refine Body.seq ?_
        refine Body.region ?_
        refine Ops.u (Dtu.mv (lk rfl)) rfl ?_
        refine Ops.u (Dtu.asg (lk rfl)) rfl ?_
        refine Ops.nil ?_
        refine Then.next ?_
        refine Body.seqJ (γ := Nat) rfl (fun g => [(10, .int .i64 g)]) (fun _ => [osl 55 4 (.slice wa wm wc) bc.length (bc.flatMap Cell.enc), osl 5 1 O bs.length (bs.map (.int .u8)), own b3 [.int .i64 b.rows, .int .i64 b.cols, .slice ta tm tc, .int .i64 b.row, .int .i64 b.col, .bool b.vis] 24, own b2 [.int .i64 a.rows, .int .i64 a.cols, .slice sa sm sc, .int .i64 a.row, .int .i64 a.col, .bool a.vis] 24])
          (fun g => i < g ∧ g ≤ ys.length ∧ difR (i - l) [] (P.drop i) = (i - l, (ys.drop i).take (g - i)) :: difR 1 [] (P.drop (g + 1))) ?_ ?_
        · refine Body.block ?_
          refine Body.loopF (γ := Nat) rfl (fun g => [(10, .int .i64 g)]) (fun _ => [osl 55 4 (.slice wa wm wc) bc.length (bc.flatMap Cell.enc), osl 5 1 O bs.length (bs.map (.int .u8)), own b3 [.int .i64 b.rows, .int .i64 b.cols, .slice ta tm tc, .int .i64 b.row, .int .i64 b.col, .bool b.vis] 24, own b2 [.int .i64 a.rows, .int .i64 a.cols, .slice sa sm sc, .int .i64 a.row, .int .i64 a.col, .bool a.vis] 24])
            (fun g => i ≤ g ∧ g ≤ ys.length ∧ difR (i - l) [] (P.drop i) = difR (i - l) ((ys.drop i).take (g - i)) (P.drop g)) (fun g => ys.length - g) i ⟨by omega, by omega, by simp⟩ ⟨rfl, trivial⟩ rfl ?_
          rintro q u2 ⟨hq, hqn, hr⟩
          refine Body.seq ?_
          refine Body.seq ?_
          refine Body.draw mixed ?_
          refine AB.u 0 rfl (by decide +kernel) (Dtu.mv (lk rfl)) rfl ?_
          refine AB.u 1 rfl (by decide +kernel) (Dtu.mv (lk rfl)) rfl ?_
          refine AB.u 2 rfl (by decide +kernel) (Dtu.lenS Try.underlying22 (Sl.osl 0 rfl) (lk rfl)) rfl ?_
          refine AB.u 3 rfl (by decide +kernel) (Dtu.lss (lk rfl) (lk rfl)) rfl ?_
          refine AB.u 4 rfl (by decide +kernel) (Dtu.mv (lk rfl)) rfl ?_
          refine AB.decP 67 rfl (fun c67 => ?_) (fun c67 => ?_)
          · obtain ⟨p3, p4⟩ := hPi q (by omega)
            refine AB.gu 5 rfl (by decide +kernel) rfl rfl rfl (Dtu.mv (lk rfl)) rfl ?_
            refine AB.gu 6 rfl (by decide +kernel) rfl rfl rfl (Dtu.mv (lk rfl)) rfl ?_
            refine AB.gu 7 rfl (by decide +kernel) rfl rfl rfl (Dtu.ix (i := (q)) Try.underlying22 Try.sizeOf55 (Sl.osl 0 rfl) (lk rfl) (lk rfl) (by omega) (by omega)) rfl ?_
            refine AB.gd 8 rfl (by decide +kernel) rfl rfl rfl rfl (Det.lda Try.isAgg55 Try.sizeOf55 (lk rfl) (Rds.sl (Sl.osl 0 rfl) (gf (sz := 4) (fun _ => rfl) (by omega))) rfl) rfl ?_
            refine AB.gu 9 rfl (by decide +kernel) rfl rfl rfl (Dtu.fld fa24_2 (lk rfl)) rfl ?_
            refine AB.gd 10 rfl (by decide +kernel) rfl rfl rfl rfl (Det.ld Try.isAgg22 (lk rfl) (Rd.ow 2 rfl rfl)) rfl ?_
            refine AB.gu 11 rfl (by decide +kernel) rfl rfl rfl (Dtu.mv (lk rfl)) rfl ?_
            refine AB.gu 12 rfl (by decide +kernel) rfl rfl rfl (Dtu.ix (i := (q)) Try.underlying22 Try.sizeOf55 (Sl.up hb) (lk rfl) (lk rfl) (by omega) (by omega)) rfl ?_
            refine AB.gd 13 rfl (by decide +kernel) rfl rfl rfl rfl (Det.lda Try.isAgg55 Try.sizeOf55 (lk rfl) (Rds.sl (Sl.up hb) (gf (sz := 4) (fun _ => rfl) (by omega))) rfl) rfl ?_
            refine AB.gu 14 rfl (by decide +kernel) rfl rfl rfl (Dtu.neS eqGuard55 (eq55 _ _) (lk rfl) (lk rfl)) rfl ?_
            refine AB.u 15 rfl (by decide +kernel) (Dtu.pickT (lk rfl) (lk rfl)) rfl ?_
            refine AB.done (by decide +kernel) ?_
            refine Then.next ?_
            refine Body.cond (lk rfl) (fun c78 => ?_) (fun c78 => ?_)
            · refine Body.skip ?_
              refine Then.next ?_
              refine Body.block ?_
              refine Body.region ?_
              refine Ops.u (Dtu.mv (lk rfl)) rfl ?_
              refine Ops.u (Dtu.add (lk rfl) (lk rfl) (w64 (by omega) (by omega))) rfl ?_
              refine Ops.u (Dtu.asg (lk rfl)) rfl ?_
              refine Ops.nil ?_
              refine Blk.norm ?_
              have hne2 : ¬ P[q]!.1 = P[q]!.2 := by rw [p3, p4]; simpa using c78
              refine Round.goF (q + 1) rfl rfl rfl ⟨int_eq (by simp), trivial⟩ rfl ⟨by omega, by omega, ?_⟩ (by omega)
              rw [hr, difR_ne (P := P) (i := q) (by omega) hne2, p4, run_snoc hq (by omega)]
            · refine Body.exit ?_
              refine Then.exit ?_
              refine Round.exit ?_
              refine Blk.here ?_
              have heq2 : P[q]!.1 = P[q]!.2 := by rw [p3, p4]; simpa using c78
              have hiq : i < q := by
                rcases Nat.lt_or_eq_of_le hq with h | h
                · exact h
                · subst h; exact absurd heq2 hne
              refine Joint.goK [0, 0, 0, 0] q rfl rfl rfl ⟨rfl, trivial⟩ rfl rfl ⟨hiq, hqn, ?_⟩
              rw [hr, difR_end (P := P) (i := q) (fun h => by have := congrArg List.length h; simp at this; omega) (fun _ => heq2)]
          · refine AB.gn 5 rfl (by decide +kernel) rfl rfl rfl rfl rfl ?_
            refine AB.gn 6 rfl (by decide +kernel) rfl rfl rfl rfl rfl ?_
            refine AB.gn 7 rfl (by decide +kernel) rfl rfl rfl rfl rfl ?_
            refine AB.gn 8 rfl (by decide +kernel) rfl rfl rfl rfl rfl ?_
            refine AB.gn 9 rfl (by decide +kernel) rfl rfl rfl rfl rfl ?_
            refine AB.gn 10 rfl (by decide +kernel) rfl rfl rfl rfl rfl ?_
            refine AB.gn 11 rfl (by decide +kernel) rfl rfl rfl rfl rfl ?_
            refine AB.gn 12 rfl (by decide +kernel) rfl rfl rfl rfl rfl ?_
            refine AB.gn 13 rfl (by decide +kernel) rfl rfl rfl rfl rfl ?_
            refine AB.gn 14 rfl (by decide +kernel) rfl rfl rfl rfl rfl ?_
            refine AB.u 15 rfl (by decide +kernel) (Dtu.pickF (lk rfl) (lk rfl)) rfl ?_
            refine AB.done (by decide +kernel) ?_
            refine Then.next ?_
            refine Body.condF (lk rfl) ?_
            refine Body.exit ?_
            refine Then.exit ?_
            refine Round.exit ?_
            refine Blk.here ?_
            have hiq : i < q := by omega
            refine Joint.goK [0, 0, 0, 0] q rfl rfl rfl ⟨rfl, trivial⟩ rfl rfl ⟨hiq, hqn, ?_⟩
            rw [hr, difR_end (P := P) (i := q) (fun h => by have := congrArg List.length h; simp at this; omega) (fun h => by omega)]
        · rintro q u2 ⟨hq, hqn, hr⟩
          have hz1 := sizeS_le ((i : Int) - l)
          have hz2 := sizeS_le ((q : Int) - i)
          have hnum : ∀ E' v, Sl E' [] 1 v 2 [.int .i64 ((i : Int) - l), .int .i64 ((q : Int) - i)] → Does Try.prog 59 #[v] E' [] fun r H' => ∃ s', s' = r ∧ H' = [osl 5 1 s' ([(i : Int) - l, (q : Int) - i].flatMap putL).length (([(i : Int) - l, (q : Int) - i].flatMap putL).map (.int .u8))] :=
            fun E' v h => numbers_ok E' v [(i : Int) - l, (q : Int) - i] h (by simp; omega) (by simp)
          have hN : [(i : Int) - l, (q : Int) - i].flatMap putL = putL ((i - l : Nat) : Int) ++ putL ((q - i : Nat) : Int) := by
            rw [show ((i - l : Nat) : Int) = (i : Int) - l by omega, show ((q - i : Nat) : Int) = (q : Int) - i by omega]; simp
          have hNl : ([(i : Int) - l, (q : Int) - i].flatMap putL).length ≤ 16 := by simp [putL_len]; omega
          generalize [(i : Int) - l, (q : Int) - i].flatMap putL = N at *
          have hs5 := Sl.subF (enc := Cell.enc) (sz := 4) (fun c => rfl) hb i q (by omega) hqn
          have hrl : ((ys.drop i).take (q - i)).length = q - i := by simp; omega
          have hrok : ∀ c ∈ (ys.drop i).take (q - i), c.ok = true := fun c hc => ob c (List.mem_of_mem_drop (List.mem_of_mem_take hc))
          generalize (ys.drop i).take (q - i) = R at *
          refine Body.seq ?_
          refine Body.region ?_
          refine Ops.u (Dtu.mv (lk rfl)) rfl ?_
          refine Ops.u (Dtu.mv (lk rfl)) rfl ?_
          refine Ops.u (Dtu.mv (lk rfl)) rfl ?_
          refine Ops.u (Dtu.sub (lk rfl) (lk rfl) (w64 (by omega) (by omega))) rfl ?_
          refine Ops.u (Dtu.mv (lk rfl)) rfl ?_
          refine Ops.u (Dtu.mv (lk rfl)) rfl ?_
          refine Ops.u (Dtu.sub (lk rfl) (lk rfl) (w64 (by omega) (by omega))) rfl ?_
          refine Ops.s (Stp.buildSliceO Try.underlying167 ty3 (by decide) (by decide) (lkp rfl) rfl rfl rfl (by decide) (fun v88 => ?_)) rfl
          refine Ops.s (Stp.call rfl Try.call59 (lks rfl) (fun E' le hat => hnum E' _ (Sl.at (hat _ (.head _)))) ?_) rfl
          rintro _ _ ⟨n89, rfl, rfl⟩
          refine Ops.s (Stp.append 3 Try.underlying32 ty5 rfl rfl (lk rfl) (lk rfl) (Sl.osl 0 rfl) (by first | rfl | exact all_map (fun _ => rfl) _ | exact all_flat (fun _ => rfl) _) (by omega) (by omega) (fun v90 => ?_)) rfl
          refine Ops.u (Dtu.asg (lk rfl)) rfl ?_
          refine Ops.nil ?_
          refine Then.next ?_
          refine Body.seq ?_
          refine Body.seq ?_
          refine Body.region ?_
          refine Ops.u (Dtu.fld fa24_2 (lk rfl)) rfl ?_
          refine Ops.d (Det.ld Try.isAgg22 (lk rfl) (Rd.ow 4 rfl rfl)) rfl ?_
          refine Ops.u (Dtu.mv (lk rfl)) rfl ?_
          refine Ops.u (Dtu.mv (lk rfl)) rfl ?_
          refine Ops.u (Dtu.slLH (i) (q) Try.underlying22 Try.sizeOf55 (Sl.up hb) (lk rfl) (lk rfl) (lk rfl) (by omega) (by omega) (by omega) (by omega)) rfl ?_
          refine Ops.u (Dtu.lenS Try.underlying22 (Sl.up hs5) (lk rfl)) rfl ?_
          refine Ops.u (Dtu.mv (lk rfl)) rfl ?_
          refine Ops.nil ?_
          refine Then.next ?_
          refine Body.block ?_
          refine Body.loopF (γ := Nat × Value × List Int) rfl (fun g => [(97, .int .i64 g.1), (6, g.2.1)])
            (fun g => [osl 5 1 n89 N.length (N.map (.int .u8)), osl 3 1 v88 2 [.int .i64 ((i : Int) - l), .int .i64 ((q : Int) - i)], osl 55 4 (.slice wa wm wc) bc.length (bc.flatMap Cell.enc), osl 5 1 g.2.1 g.2.2.length (g.2.2.map (.int .u8)), own b3 [.int .i64 b.rows, .int .i64 b.cols, .slice ta tm tc, .int .i64 b.row, .int .i64 b.col, .bool b.vis] 24, own b2 [.int .i64 a.rows, .int .i64 a.cols, .slice sa sm sc, .int .i64 a.row, .int .i64 a.col, .bool a.vis] 24])
            (fun g => g.1 ≤ q - i ∧ g.2.2 = bs ++ N ++ (R.take g.1).flatMap Cell.bytes ∧ g.2.2.length ≤ 21 + 41 * i + 25 * g.1) (fun g => q - i - g.1) (0, v90, bs ++ N) ⟨by simp, by simp, by simp; omega⟩ ⟨rfl, rfl, trivial⟩ (by simp) ?_
          rintro ⟨j, O2, bs2⟩ u3 ⟨hj, he, hl2⟩
          dsimp only at hj he hl2 ⊢
          refine Body.seq ?_
          refine Body.region ?_
          refine Ops.u (Dtu.lss (lk rfl) (lk rfl)) rfl ?_
          refine Ops.nil ?_
          refine Then.next ?_
          refine Body.seq ?_
          refine Body.condP (lk rfl) (fun c98 => ?_) (fun c98 => ?_)
          · have hcok : R[j]!.ok = true := by rw [getElem!_pos R j (by omega)]; exact hrok _ (List.getElem_mem _)
            have hbl := Cell.bytes_len R[j]!
            refine Body.skip ?_
            refine Then.next ?_
            refine Body.seq ?_
            refine Body.block ?_
            refine Body.seq ?_
            refine Body.region ?_
            refine Ops.u (Dtu.ix (i := (j)) Try.underlying22 Try.sizeOf55 (Sl.up hs5) (lk rfl) (lk rfl) (by omega) (by omega)) rfl ?_
            refine Ops.d (Det.lda Try.isAgg55 Try.sizeOf55 (lk rfl) (Rds.sl (Sl.up hs5) (gf (sz := 4) (fun _ => rfl) (by omega))) rfl) rfl ?_
            refine Ops.s (Stp.alloc ty55 (fun b12 => ?_)) rfl
            refine Ops.e (Stp.store 0 Try.sizeOf55 (lk rfl) (lk rfl) rfl rfl rfl rfl rfl rfl rfl ?_)
            refine Ops.nil ?_
            refine Then.next ?_
            refine Body.seq ?_
            refine Body.region ?_
            refine Ops.d (Det.lda Try.isAgg55 Try.sizeOf55 (lk rfl) (Rds.ow (m := 4) 0 rfl rfl) rfl) rfl ?_
            refine Ops.s (Stp.call rfl Try.call33 (lks rfl) (fun E' le hat => putCell_ok E' _ (by assumption)) ?_) rfl
            rintro _ _ ⟨s103, hz103, rfl, rfl⟩
            refine Ops.u (Dtu.mv (lk rfl)) rfl ?_
            refine Ops.u (Dtu.ext (lk rfl) rfl) rfl ?_
            refine Ops.u (Dtu.ext (lk rfl) rfl) rfl ?_
            refine Ops.u (Dtu.asg (lk rfl)) rfl ?_
            refine Ops.u (Dtu.asg (lk rfl)) rfl ?_
            refine Ops.nil ?_
            refine Then.next ?_
            refine Body.seq ?_
            refine Body.seq ?_
            refine Body.region ?_
            refine Ops.u (Dtu.mv (lk rfl)) rfl ?_
            refine Ops.u (Dtu.neq (lk rfl) (lk rfl)) rfl ?_
            refine Ops.nil ?_
            refine Then.next ?_
            refine Body.condP (lk rfl) (fun hy => absurd hy (by first | omega | assumption | decide)) (fun _ => ?_)
            refine Body.skip ?_
            refine Then.next ?_
            refine Body.region ?_
            refine Ops.u (Dtu.mv (lk rfl)) rfl ?_
            refine Ops.u (Dtu.mv (lk rfl)) rfl ?_
            refine Ops.s (Stp.append 5 Try.underlying32 ty5 rfl rfl (lk rfl) (lk rfl) (Sl.osl 0 rfl) (by first | rfl | exact all_map (fun _ => rfl) _ | exact all_flat (fun _ => rfl) _) (by omega) (by omega) (fun v111 => ?_)) rfl
            refine Ops.u (Dtu.asg (lk rfl)) rfl ?_
            refine Ops.nil ?_
            refine Blk.norm ?_
            refine Then.next ?_
            refine Body.region ?_
            refine Ops.u (Dtu.add (lk rfl) (lk rfl) (w64 (by omega) (by omega))) rfl ?_
            refine Ops.u (Dtu.mv (lk rfl)) rfl ?_
            refine Ops.nil ?_
            refine Round.goK [2, 2, 2, 2, 2, 2] (j + 1, v111, bs2 ++ R[j]!.bytes) rfl rfl rfl ⟨int_eq (by simp), rfl, trivial⟩ rfl ?_ ⟨by dsimp only; omega, ?_, ?_⟩ (by dsimp only; omega)
            · simp [Cell.bytes_len]
            · dsimp only
              rw [he, take_snocD (by omega), List.flatMap_append]; simp
            · have := Cell.size_13 hcok
              simp only [List.length_append]; omega
          · obtain rfl : j = q - i := by omega
            have hT : R.take (q - i) = R := List.take_of_length_le (by omega)
            rw [hT] at he
            refine Body.exit ?_
            refine Then.exit ?_
            refine Round.exit ?_
            refine Blk.here ?_
            refine Then.next ?_
            refine Body.region ?_
            refine Ops.u (Dtu.mv (lk rfl)) rfl ?_
            refine Ops.u (Dtu.mv (lk rfl)) rfl ?_
            refine Ops.u (Dtu.asg (lk rfl)) rfl ?_
            refine Ops.u (Dtu.asg (lk rfl)) rfl ?_
            refine Ops.nil ?_
            refine Blk.norm ?_
            refine Then.next ?_
            refine Body.region ?_
            refine Ops.u (Dtu.mv (lk rfl)) rfl ?_
            refine Ops.u (Dtu.add (lk rfl) (lk rfl) (w64 (by omega) (by omega))) rfl ?_
            refine Ops.u (Dtu.asg (lk rfl)) rfl ?_
            refine Ops.nil ?_
            refine Round.goK [2, 2, 2, 2] (q + 1, q, O2, bs2) rfl rfl rfl ⟨int_eq (by simp), rfl, rfl, trivial⟩ rfl rfl ⟨by dsimp only; omega, by dsimp only; omega, ?_, by dsimp only; omega⟩ (by dsimp only; omega)
            dsimp only
            rw [show q + 1 - q = 1 by omega, ← hbs, hr, he, hN]
            simp [encR, hrl]
    · have hD2 : bs = D := by
        rw [← hbs, List.drop_eq_nil_of_le (by omega)]
        simp [difR]
      subst hD2
      refine Body.exit ?_
      refine Then.exit ?_
      refine Round.exit ?_
      refine Blk.here ?_
      refine Then.next ?_
      refine Body.seq ?_
      refine Body.region ?_
      refine Ops.u (Dtu.mv (lk rfl)) rfl ?_
      refine Ops.u (Dtu.asg (lk rfl)) rfl ?_
      refine Ops.u (Dtu.asg (lk rfl)) rfl ?_
      refine Ops.nil ?_
      refine Then.next ?_
      refine Body.ret ?_
      exact ⟨.inr rfl, _, pk [1] rfl, O, rfl, rfl⟩
end Go.Proofs.Ytijjjdljdjnbaaa
