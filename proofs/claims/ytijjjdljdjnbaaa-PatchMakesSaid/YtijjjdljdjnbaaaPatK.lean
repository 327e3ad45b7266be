/- PatchFew: what it computes. -/
import Derived.Test.YtijjjdljdjnbaaaPatJ
namespace Go.Proofs.Ytijjjdljdjnbaaa
set_option maxRecDepth 100000
set_option linter.unusedVariables false
set_option linter.unusedSimpArgs false
open Go.Sx

theorem runs_dif (E : Env) {a b : View} (ka : a.ok = true) (kb : b.ok = true) (fb : ∀ c ∈ b.cells, c.Fl) (v : Value) (h : Sl E [] 1 v (difB a b).length ((difB a b).map (.int .u8))) : Does Try.prog 22 #[v] E [] fun r H' => r = .tuple #[.int .i64 (difR 0 [] (difP a b)).length, .int .i64 0] ∧ H' = [] := by
  have hl := difB_len ka kb
  have h4 := ok_480 kb
  have h5 := others_le (difP a b)
  rw [difP_len ka kb] at h5
  have := runsC_ok E v (difB a b) h (difB_byt kb fb) (by omega)
  have e1 : runsK (difB a b) = (difR 0 [] (difP a b)).length := by simp [runsK, difB_runs ka kb]
  have e2 : runsE (difB a b) = 0 := by simp [runsE, difB_runs ka kb]
  rw [e1, e2] at this
  exact this
theorem others_drop {P : List (Cell × Cell)} {i : Nat} (h : i < P.length) : others (P.drop i) = (if P[i]!.1 = P[i]!.2 then 0 else 1) + others (P.drop (i + 1)) := by
  rw [getElem!_pos P i h, List.drop_eq_getElem_cons h]; rfl
set_option maxHeartbeats 3200000 in
theorem few_ok (E : Env) (a b : View) (s t : Value) (ha : a.has E [] s) (hb : b.has E [] t) (fb : ∀ c ∈ b.cells, c.Fl) : Does Try.prog 6 #[a.val s, b.val t] E [] fun r H' => r = .bool true ∧ H' = [] := by
  unfold View.has at ha hb
  refine Does.pure ha.isSl fun hs => ?_
  obtain ⟨sa, sm, sc, rfl⟩ := hs
  refine Does.pure hb.isSl fun hs => ?_
  obtain ⟨ta, tm, tc, rfl⟩ := hs
  refine Does.go (args := [a.val _, b.val _]) _ _ Try.func6 rfl Try.ntmps6 rfl rfl ?_
  cases ka : a.ok with
  | false =>
    refine Body.seq ?_
    refine Body.region ?_
    refine Ops.s (Stp.box (lk rfl) rfl (fun b2 => ?_)) rfl
    refine Ops.s (Stp.box (lk rfl) rfl (fun b3 => ?_)) rfl
    refine Ops.u (Dtu.asg (lk rfl)) rfl ?_
    refine Ops.nil ?_
    refine Then.next ?_
    refine Body.seq ?_
    refine Body.seq ?_
    refine Body.region ?_
    refine Ops.d (Det.lda Try.isAgg24 Try.sizeOf24 (lk rfl) (Rds.ow (m := 6) 1 rfl rfl) rfl) rfl ?_
    refine Ops.s (Stp.call rfl Try.call25 (lks rfl) (fun E' le hat => right_ok E' ⟨_, _, _, _, _, _⟩ _ (Sl.mono (by assumption) le)) ?_) rfl
    rintro _ _ ⟨rfl, rfl⟩
    refine Ops.u (Dtu.not (lk rfl)) rfl ?_
    refine Ops.u (Dtu.mv (lk rfl)) rfl ?_
    refine Ops.dec 14 rfl (fun _ => ?_) (fun hn => absurd hn (by simp [ka]))
    refine Ops.gn rfl rfl rfl rfl rfl ?_
    refine Ops.gn rfl rfl rfl rfl rfl ?_
    refine Ops.gn rfl rfl rfl rfl rfl ?_
    refine Ops.u (Dtu.pickT (lk rfl) (lk rfl)) rfl ?_
    refine Ops.u (Dtu.mv (lk rfl)) rfl ?_
    refine Ops.gn rfl rfl rfl rfl rfl ?_
    refine Ops.gn rfl rfl rfl rfl rfl ?_
    refine Ops.gn rfl rfl rfl rfl rfl ?_
    refine Ops.gn rfl rfl rfl rfl rfl ?_
    refine Ops.gn rfl rfl rfl rfl rfl ?_
    refine Ops.u (Dtu.pickT (lk rfl) (lk rfl)) rfl ?_
    refine Ops.u (Dtu.mv (lk rfl)) rfl ?_
    refine Ops.gn rfl rfl rfl rfl rfl ?_
    refine Ops.gn rfl rfl rfl rfl rfl ?_
    refine Ops.gn rfl rfl rfl rfl rfl ?_
    refine Ops.gn rfl rfl rfl rfl rfl ?_
    refine Ops.gn rfl rfl rfl rfl rfl ?_
    refine Ops.u (Dtu.pickT (lk rfl) (lk rfl)) rfl ?_
    refine Ops.u (Dtu.mv (lk rfl)) rfl ?_
    refine Ops.gn rfl rfl rfl rfl rfl ?_
    refine Ops.gn rfl rfl rfl rfl rfl ?_
    refine Ops.gn rfl rfl rfl rfl rfl ?_
    refine Ops.gn rfl rfl rfl rfl rfl ?_
    refine Ops.gn rfl rfl rfl rfl rfl ?_
    refine Ops.gn rfl rfl rfl rfl rfl ?_
    refine Ops.gn rfl rfl rfl rfl rfl ?_
    refine Ops.u (Dtu.pickT (lk rfl) (lk rfl)) rfl ?_
    refine Ops.nil ?_
    refine Then.next ?_
    refine Body.condT (lk rfl) ?_
    refine Body.seq ?_
    refine Body.region ?_
    refine Ops.s (Stp.call rfl Try.call15 (lks rfl) (fun E' le hat => alive21_ok E') ?_) rfl
    rintro _ _ ⟨rfl, rfl⟩
    refine Ops.u (Dtu.asg (lk rfl)) rfl ?_
    refine Ops.nil ?_
    refine Then.next ?_
    refine Body.ret ?_
    refine Then.ret ?_
    exact ⟨.inr rfl, _, pk [] rfl, rfl, rfl⟩
  | true =>
    cases kb : b.ok with
    | false =>
      refine Body.seq ?_
      refine Body.region ?_
      refine Ops.s (Stp.box (lk rfl) rfl (fun b2 => ?_)) rfl
      refine Ops.s (Stp.box (lk rfl) rfl (fun b3 => ?_)) rfl
      refine Ops.u (Dtu.asg (lk rfl)) rfl ?_
      refine Ops.nil ?_
      refine Then.next ?_
      refine Body.seq ?_
      refine Body.seq ?_
      refine Body.region ?_
      refine Ops.d (Det.lda Try.isAgg24 Try.sizeOf24 (lk rfl) (Rds.ow (m := 6) 1 rfl rfl) rfl) rfl ?_
      refine Ops.s (Stp.call rfl Try.call25 (lks rfl) (fun E' le hat => right_ok E' ⟨_, _, _, _, _, _⟩ _ (Sl.mono (by assumption) le)) ?_) rfl
      rintro _ _ ⟨rfl, rfl⟩
      refine Ops.u (Dtu.not (lk rfl)) rfl ?_
      refine Ops.u (Dtu.mv (lk rfl)) rfl ?_
      refine Ops.dec 14 rfl (fun hn => absurd hn (by simp [ka])) (fun _ => ?_)
      refine Ops.gd rfl rfl rfl (Det.lda Try.isAgg24 Try.sizeOf24 (lk rfl) (Rds.ow (m := 6) 0 rfl rfl) rfl) rfl ?_
      refine Ops.gs rfl rfl rfl (Stp.call rfl Try.call25 (lks rfl) (fun E' le hat => right_ok E' ⟨_, _, _, _, _, _⟩ _ (Sl.mono (by assumption) le)) ?_) rfl
      rintro _ _ ⟨rfl, rfl⟩
      refine Ops.gu rfl rfl rfl (Dtu.not (lk rfl)) rfl ?_
      refine Ops.u (Dtu.pickF (lk rfl) (lk rfl)) rfl ?_
      refine Ops.u (Dtu.mv (lk rfl)) rfl ?_
      refine Ops.dec 19 rfl (fun _ => ?_) (fun hn => absurd hn (by simp [kb]))
      refine Ops.gn rfl rfl rfl rfl rfl ?_
      refine Ops.gn rfl rfl rfl rfl rfl ?_
      refine Ops.gn rfl rfl rfl rfl rfl ?_
      refine Ops.gn rfl rfl rfl rfl rfl ?_
      refine Ops.gn rfl rfl rfl rfl rfl ?_
      refine Ops.u (Dtu.pickT (lk rfl) (lk rfl)) rfl ?_
      refine Ops.u (Dtu.mv (lk rfl)) rfl ?_
      refine Ops.gn rfl rfl rfl rfl rfl ?_
      refine Ops.gn rfl rfl rfl rfl rfl ?_
      refine Ops.gn rfl rfl rfl rfl rfl ?_
      refine Ops.gn rfl rfl rfl rfl rfl ?_
      refine Ops.gn rfl rfl rfl rfl rfl ?_
      refine Ops.u (Dtu.pickT (lk rfl) (lk rfl)) rfl ?_
      refine Ops.u (Dtu.mv (lk rfl)) rfl ?_
      refine Ops.gn rfl rfl rfl rfl rfl ?_
      refine Ops.gn rfl rfl rfl rfl rfl ?_
      refine Ops.gn rfl rfl rfl rfl rfl ?_
      refine Ops.gn rfl rfl rfl rfl rfl ?_
      refine Ops.gn rfl rfl rfl rfl rfl ?_
      refine Ops.gn rfl rfl rfl rfl rfl ?_
      refine Ops.gn rfl rfl rfl rfl rfl ?_
      refine Ops.u (Dtu.pickT (lk rfl) (lk rfl)) rfl ?_
      refine Ops.nil ?_
      refine Then.next ?_
      refine Body.condT (lk rfl) ?_
      refine Body.seq ?_
      refine Body.region ?_
      refine Ops.s (Stp.call rfl Try.call15 (lks rfl) (fun E' le hat => alive21_ok E') ?_) rfl
      rintro _ _ ⟨rfl, rfl⟩
      refine Ops.u (Dtu.asg (lk rfl)) rfl ?_
      refine Ops.nil ?_
      refine Then.next ?_
      refine Body.ret ?_
      refine Then.ret ?_
      exact ⟨.inr rfl, _, pk [] rfl, rfl, rfl⟩
    | true =>
      by_cases hd : a.rows = b.rows ∧ a.cols = b.cols ∧ (a.cells.length : Int) = b.cells.length
      · obtain ⟨e1, e2, e3⟩ := hd
        have hP : difP (View.mk a.rows a.cols a.cells a.row a.col a.vis) (View.mk b.rows b.cols b.cells b.row b.col b.vis) = a.cells.zip b.cells := by unfold difP baseC; rw [if_pos ⟨e1, e2⟩]
        have h4 := ok_480 kb
        obtain ⟨q1, q2, q3, q4⟩ : (difB (View.mk a.rows a.cols a.cells a.row a.col a.vis) (View.mk b.rows b.cols b.cells b.row b.col b.vis)).length ≤ 5 + 17 * others (difP (View.mk a.rows a.cols a.cells a.row a.col a.vis) (View.mk b.rows b.cols b.cells b.row b.col b.vis)) ∧ (difR 0 [] (difP (View.mk a.rows a.cols a.cells a.row a.col a.vis) (View.mk b.rows b.cols b.cells b.row b.col b.vis))).length ≤ others (difP (View.mk a.rows a.cols a.cells a.row a.col a.vis) (View.mk b.rows b.cols b.cells b.row b.col b.vis)) ∧ (0 < (difR 0 [] (difP (View.mk a.rows a.cols a.cells a.row a.col a.vis) (View.mk b.rows b.cols b.cells b.row b.col b.vis))).length ↔ 5 < (difB (View.mk a.rows a.cols a.cells a.row a.col a.vis) (View.mk b.rows b.cols b.cells b.row b.col b.vis)).length) ∧ (0 < (difR 0 [] (difP (View.mk a.rows a.cols a.cells a.row a.col a.vis) (View.mk b.rows b.cols b.cells b.row b.col b.vis))).length ↔ 0 < others (difP (View.mk a.rows a.cols a.cells a.row a.col a.vis) (View.mk b.rows b.cols b.cells b.row b.col b.vis))) := difB_len ka kb
        have b5 := others_le (difP (View.mk a.rows a.cols a.cells a.row a.col a.vis) (View.mk b.rows b.cols b.cells b.row b.col b.vis))
        have hR := fun (E' : Env) (v : Value) (h : Sl E' [] 1 v (difB (View.mk a.rows a.cols a.cells a.row a.col a.vis) (View.mk b.rows b.cols b.cells b.row b.col b.vis)).length ((difB (View.mk a.rows a.cols a.cells a.row a.col a.vis) (View.mk b.rows b.cols b.cells b.row b.col b.vis)).map (.int .u8))) => runs_dif E' (a := (View.mk a.rows a.cols a.cells a.row a.col a.vis)) (b := (View.mk b.rows b.cols b.cells b.row b.col b.vis)) ka kb fb v h
        have hPl : (difP (View.mk a.rows a.cols a.cells a.row a.col a.vis) (View.mk b.rows b.cols b.cells b.row b.col b.vis)).length = b.cells.length := difP_len ka kb
        have hPi : ∀ i, i < b.cells.length → (difP (View.mk a.rows a.cols a.cells a.row a.col a.vis) (View.mk b.rows b.cols b.cells b.row b.col b.vis))[i]!.1 = a.cells[i]! ∧ (difP (View.mk a.rows a.cols a.cells a.row a.col a.vis) (View.mk b.rows b.cols b.cells b.row b.col b.vis))[i]!.2 = b.cells[i]! := fun i hi => by rw [hP]; exact zip_at (by omega) hi
        generalize (difR 0 [] (difP (View.mk a.rows a.cols a.cells a.row a.col a.vis) (View.mk b.rows b.cols b.cells b.row b.col b.vis))).length = nr at *
        generalize difP (View.mk a.rows a.cols a.cells a.row a.col a.vis) (View.mk b.rows b.cols b.cells b.row b.col b.vis) = P at *
        refine Body.seq ?_
        refine Body.region ?_
        refine Ops.s (Stp.box (lk rfl) rfl (fun b2 => ?_)) rfl
        refine Ops.s (Stp.box (lk rfl) rfl (fun b3 => ?_)) rfl
        refine Ops.u (Dtu.asg (lk rfl)) rfl ?_
        refine Ops.nil ?_
        refine Then.next ?_
        refine Body.seq ?_
        refine Body.seq ?_
        refine Body.region ?_
        refine Ops.d (Det.lda Try.isAgg24 Try.sizeOf24 (lk rfl) (Rds.ow (m := 6) 1 rfl rfl) rfl) rfl ?_
        refine Ops.s (Stp.call rfl Try.call25 (lks rfl) (fun E' le hat => right_ok E' ⟨_, _, _, _, _, _⟩ _ (Sl.mono (by assumption) le)) ?_) rfl
        rintro _ _ ⟨rfl, rfl⟩
        refine Ops.u (Dtu.not (lk rfl)) rfl ?_
        refine Ops.u (Dtu.mv (lk rfl)) rfl ?_
        refine Ops.dec 14 rfl (fun hn => absurd hn (by simp [ka])) (fun _ => ?_)
        refine Ops.gd rfl rfl rfl (Det.lda Try.isAgg24 Try.sizeOf24 (lk rfl) (Rds.ow (m := 6) 0 rfl rfl) rfl) rfl ?_
        refine Ops.gs rfl rfl rfl (Stp.call rfl Try.call25 (lks rfl) (fun E' le hat => right_ok E' ⟨_, _, _, _, _, _⟩ _ (Sl.mono (by assumption) le)) ?_) rfl
        rintro _ _ ⟨rfl, rfl⟩
        refine Ops.gu rfl rfl rfl (Dtu.not (lk rfl)) rfl ?_
        refine Ops.u (Dtu.pickF (lk rfl) (lk rfl)) rfl ?_
        refine Ops.u (Dtu.mv (lk rfl)) rfl ?_
        refine Ops.dec 19 rfl (fun hn => absurd hn (by simp [kb])) (fun _ => ?_)
        refine Ops.gu rfl rfl rfl (Dtu.fld fa24_0 (lk rfl)) rfl ?_
        refine Ops.gd rfl rfl rfl (Det.ld Try.isAgg3 (lk rfl) (Rd.ow 1 rfl rfl)) rfl ?_
        refine Ops.gu rfl rfl rfl (Dtu.fld fa24_0 (lk rfl)) rfl ?_
        refine Ops.gd rfl rfl rfl (Det.ld Try.isAgg3 (lk rfl) (Rd.ow 0 rfl rfl)) rfl ?_
        refine Ops.gu rfl rfl rfl (Dtu.neq (lk rfl) (lk rfl)) rfl ?_
        refine Ops.u (Dtu.pickF (lk rfl) (lk rfl)) rfl ?_
        refine Ops.u (Dtu.mv (lk rfl)) rfl ?_
        refine Ops.decP 26 rfl (fun hy => absurd hy (by first | omega | assumption | decide)) (fun _ => ?_)
        refine Ops.gu rfl rfl rfl (Dtu.fld fa24_1 (lk rfl)) rfl ?_
        refine Ops.gd rfl rfl rfl (Det.ld Try.isAgg3 (lk rfl) (Rd.ow 1 rfl rfl)) rfl ?_
        refine Ops.gu rfl rfl rfl (Dtu.fld fa24_1 (lk rfl)) rfl ?_
        refine Ops.gd rfl rfl rfl (Det.ld Try.isAgg3 (lk rfl) (Rd.ow 0 rfl rfl)) rfl ?_
        refine Ops.gu rfl rfl rfl (Dtu.neq (lk rfl) (lk rfl)) rfl ?_
        refine Ops.u (Dtu.pickF (lk rfl) (lk rfl)) rfl ?_
        refine Ops.u (Dtu.mv (lk rfl)) rfl ?_
        refine Ops.decP 33 rfl (fun hy => absurd hy (by first | omega | assumption | decide)) (fun _ => ?_)
        refine Ops.gu rfl rfl rfl (Dtu.fld fa24_2 (lk rfl)) rfl ?_
        refine Ops.gd rfl rfl rfl (Det.ld Try.isAgg22 (lk rfl) (Rd.ow 1 rfl rfl)) rfl ?_
        refine Ops.gu rfl rfl rfl (Dtu.lenS Try.underlying22 (Sl.up ha) (lk rfl)) rfl ?_
        refine Ops.gu rfl rfl rfl (Dtu.fld fa24_2 (lk rfl)) rfl ?_
        refine Ops.gd rfl rfl rfl (Det.ld Try.isAgg22 (lk rfl) (Rd.ow 0 rfl rfl)) rfl ?_
        refine Ops.gu rfl rfl rfl (Dtu.lenS Try.underlying22 (Sl.up hb) (lk rfl)) rfl ?_
        refine Ops.gu rfl rfl rfl (Dtu.neq (lk rfl) (lk rfl)) rfl ?_
        refine Ops.u (Dtu.pickF (lk rfl) (lk rfl)) rfl ?_
        refine Ops.nil ?_
        refine Then.next ?_
        refine Body.condP (lk rfl) (fun hy => absurd hy (by first | omega | assumption | decide)) (fun _ => ?_)
        refine Body.skip ?_
        refine Then.next ?_
        refine Body.seq ?_
        refine Body.region ?_
        refine Ops.d (Det.lda Try.isAgg24 Try.sizeOf24 (lk rfl) (Rds.ow (m := 6) 1 rfl rfl) rfl) rfl ?_
        refine Ops.d (Det.lda Try.isAgg24 Try.sizeOf24 (lk rfl) (Rds.ow (m := 6) 0 rfl rfl) rfl) rfl ?_
        refine Ops.s (Stp.call rfl Try.call17 (lks rfl) (fun E' le hat => diff_ok E' ⟨_, _, _, _, _, _⟩ ⟨_, _, _, _, _, _⟩ _ _ (Sl.mono (by assumption) le) (Sl.mono (by assumption) le) (by assumption) (by assumption)) ?_) rfl
        rintro _ _ ⟨s46, rfl, rfl⟩
        refine Ops.u (Dtu.mv (lk rfl)) rfl ?_
        refine Ops.u (Dtu.ext (lk rfl) rfl) rfl ?_
        refine Ops.u (Dtu.ext (lk rfl) rfl) rfl ?_
        refine Ops.u (Dtu.asg (lk rfl)) rfl ?_
        refine Ops.u (Dtu.asg (lk rfl)) rfl ?_
        refine Ops.nil ?_
        refine Then.next ?_
        refine Body.seq ?_
        refine Body.region ?_
        refine Ops.u (Dtu.mv (lk rfl)) rfl ?_
        refine Ops.s (Stp.call rfl Try.call22 (lks rfl) (fun E' le hat => hR E' _ (Sl.at (hat _ (.head _)))) ?_) rfl
        rintro _ _ ⟨rfl, rfl⟩
        refine Ops.u (Dtu.mv (lk rfl)) rfl ?_
        refine Ops.u (Dtu.ext (lk rfl) rfl) rfl ?_
        refine Ops.u (Dtu.ext (lk rfl) rfl) rfl ?_
        refine Ops.u (Dtu.asg (lk rfl)) rfl ?_
        refine Ops.u (Dtu.asg (lk rfl)) rfl ?_
        refine Ops.nil ?_
        refine Then.next ?_
        refine Body.seq ?_
        refine Body.region ?_
        refine Ops.u (Dtu.asg (lk rfl)) rfl ?_
        refine Ops.nil ?_
        refine Then.next ?_
        refine Body.seq ?_
        refine Body.seq ?_
        refine Body.region ?_
        refine Ops.u (Dtu.asg (lk rfl)) rfl ?_
        refine Ops.nil ?_
        refine Then.next ?_
        refine Body.block ?_
        generalize difB (View.mk a.rows a.cols a.cells a.row a.col a.vis) (View.mk b.rows b.cols b.cells b.row b.col b.vis) = D at *
        refine Body.loopF (γ := Nat × Nat) rfl (fun g => [(10, .int .i64 g.1), (9, .int .i64 g.2)]) (fun _ => [osl 5 1 s46 D.length (D.map (.int .u8)), own b3 [.int .i64 b.rows, .int .i64 b.cols, .slice ta tm tc, .int .i64 b.row, .int .i64 b.col, .bool b.vis] 24, own b2 [.int .i64 a.rows, .int .i64 a.cols, .slice sa sm sc, .int .i64 a.row, .int .i64 a.col, .bool a.vis] 24])
          (fun g => g.1 ≤ b.cells.length ∧ g.2 + others (P.drop g.1) = others P) (fun g => b.cells.length - g.1) (0, 0) ⟨by simp, by simp⟩ ⟨rfl, rfl, trivial⟩ rfl ?_
        rintro ⟨i, o⟩ u ⟨hi, ho⟩
        dsimp only at hi ho ⊢
        refine Body.seq ?_
        refine Body.seq ?_
        refine Body.region ?_
        refine Ops.u (Dtu.mv (lk rfl)) rfl ?_
        refine Ops.u (Dtu.fld fa24_2 (lk rfl)) rfl ?_
        refine Ops.d (Det.ld Try.isAgg22 (lk rfl) (Rd.ow 2 rfl rfl)) rfl ?_
        refine Ops.u (Dtu.lenS Try.underlying22 (Sl.up ha) (lk rfl)) rfl ?_
        refine Ops.u (Dtu.lss (lk rfl) (lk rfl)) rfl ?_
        refine Ops.nil ?_
        refine Then.next ?_
        refine Body.condP (lk rfl) (fun c58 => ?_) (fun c58 => ?_)
        · obtain ⟨p1, p2⟩ := hPi i (by omega)
          rw [others_drop (by omega), p1, p2] at ho
          refine Body.skip ?_
          refine Then.next ?_
          refine Body.seq ?_
          refine Body.block ?_
          refine Body.seq ?_
          refine Body.draw mixed ?_
          refine AB.u 0 rfl (by decide +kernel) (Dtu.fld fa24_2 (lk rfl)) rfl ?_
          refine AB.d 1 rfl (by decide +kernel) rfl (Det.ld Try.isAgg22 (lk rfl) (Rd.ow 2 rfl rfl)) rfl ?_
          refine AB.u 2 rfl (by decide +kernel) (Dtu.mv (lk rfl)) rfl ?_
          refine AB.u 3 rfl (by decide +kernel) (Dtu.ix (i := (i)) Try.underlying22 Try.sizeOf55 (Sl.up ha) (lk rfl) (lk rfl) (by omega) (by omega)) rfl ?_
          refine AB.d 4 rfl (by decide +kernel) rfl (Det.lda Try.isAgg55 Try.sizeOf55 (lk rfl) (Rds.sl (Sl.up ha) (gf (sz := 4) (fun _ => rfl) (by omega))) rfl) rfl ?_
          refine AB.u 5 rfl (by decide +kernel) (Dtu.fld fa24_2 (lk rfl)) rfl ?_
          refine AB.d 6 rfl (by decide +kernel) rfl (Det.ld Try.isAgg22 (lk rfl) (Rd.ow 1 rfl rfl)) rfl ?_
          refine AB.u 7 rfl (by decide +kernel) (Dtu.mv (lk rfl)) rfl ?_
          refine AB.u 8 rfl (by decide +kernel) (Dtu.ix (i := (i)) Try.underlying22 Try.sizeOf55 (Sl.up hb) (lk rfl) (lk rfl) (by omega) (by omega)) rfl ?_
          refine AB.d 9 rfl (by decide +kernel) rfl (Det.lda Try.isAgg55 Try.sizeOf55 (lk rfl) (Rds.sl (Sl.up hb) (gf (sz := 4) (fun _ => rfl) (by omega))) rfl) rfl ?_
          refine AB.u 10 rfl (by decide +kernel) (Dtu.neS eqGuard55 (eq55 _ _) (lk rfl) (lk rfl)) rfl ?_
          refine AB.done (by decide +kernel) ?_
          refine Then.next ?_
          refine Body.cond (lk rfl) (fun c71 => ?_) (fun c71 => ?_)
          · have hne : ¬ a.cells[i]! = b.cells[i]! := by simpa using c71
            rw [if_neg hne] at ho
            refine Body.region ?_
            refine Ops.u (Dtu.mv (lk rfl)) rfl ?_
            refine Ops.u (Dtu.add (lk rfl) (lk rfl) (w64 (by omega) (by omega))) rfl ?_
            refine Ops.u (Dtu.asg (lk rfl)) rfl ?_
            refine Ops.nil ?_
            refine Blk.norm ?_
            refine Then.next ?_
            refine Body.region ?_
            refine Ops.u (Dtu.mv (lk rfl)) rfl ?_
            refine Ops.u (Dtu.add (lk rfl) (lk rfl) (w64 (by omega) (by omega))) rfl ?_
            refine Ops.u (Dtu.asg (lk rfl)) rfl ?_
            refine Ops.nil ?_
            exact Round.goF (i + 1, o + 1) rfl rfl rfl ⟨int_eq (by simp), int_eq (by simp), trivial⟩ rfl ⟨by dsimp only; omega, by dsimp only; omega⟩ (by dsimp only; omega)
          · have heq : a.cells[i]! = b.cells[i]! := by simpa using c71
            rw [if_pos heq] at ho
            refine Body.skip ?_
            refine Blk.norm ?_
            refine Then.next ?_
            refine Body.region ?_
            refine Ops.u (Dtu.mv (lk rfl)) rfl ?_
            refine Ops.u (Dtu.add (lk rfl) (lk rfl) (w64 (by omega) (by omega))) rfl ?_
            refine Ops.u (Dtu.asg (lk rfl)) rfl ?_
            refine Ops.nil ?_
            exact Round.goF (i + 1, o) rfl rfl rfl ⟨int_eq (by simp), rfl, trivial⟩ rfl ⟨by dsimp only; omega, by dsimp only; omega⟩ (by dsimp only; omega)
        · have hoT : o = others P := by
            rw [← ho, List.drop_eq_nil_of_le (by omega)]; rfl
          subst hoT
          have hbb : decide (0 < (nr : Int)) = decide (0 < ((others P : Nat) : Int)) := by
            rw [decide_eq_decide]; omega
          refine Body.exit ?_
          refine Then.exit ?_
          refine Round.exit ?_
          refine Blk.here ?_
          refine Then.next ?_
          refine Body.seq ?_
          refine Body.region ?_
          refine Ops.s (Stp.call rfl Try.call15 (lks rfl) (fun E' le hat => alive21_ok E') ?_) rfl
          rintro _ _ ⟨rfl, rfl⟩
          refine Ops.u (Dtu.mv (lk rfl)) rfl ?_
          refine Ops.gu rfl rfl rfl (Dtu.mv (lk rfl)) rfl ?_
          refine Ops.gu rfl rfl rfl (Dtu.eql (lk rfl) (lk rfl)) rfl ?_
          refine Ops.u (Dtu.pickT (lk rfl) (lk rfl)) rfl ?_
          refine Ops.u (Dtu.mv (lk rfl)) rfl ?_
          refine Ops.decP 79 rfl (fun _ => ?_) (fun hn => absurd (by first | omega | assumption | decide) hn)
          refine Ops.gu rfl rfl rfl (Dtu.mv (lk rfl)) rfl ?_
          refine Ops.gu rfl rfl rfl (Dtu.eql (lk rfl) (lk rfl)) rfl ?_
          refine Ops.u (Dtu.pickT (lk rfl) (lk rfl)) rfl ?_
          refine Ops.u (Dtu.mv (lk rfl)) rfl ?_
          refine Ops.decP 83 rfl (fun _ => ?_) (fun hn => absurd (by first | omega | assumption | decide) hn)
          refine Ops.gu rfl rfl rfl (Dtu.mv (lk rfl)) rfl ?_
          refine Ops.gu rfl rfl rfl (Dtu.mv (lk rfl)) rfl ?_
          refine Ops.gu rfl rfl rfl (Dtu.leq (lk rfl) (lk rfl)) rfl ?_
          refine Ops.u (Dtu.pickT (lk rfl) (lk rfl)) rfl ?_
          refine Ops.u (Dtu.mv (lk rfl)) rfl ?_
          refine Ops.decP 88 rfl (fun _ => ?_) (fun hn => absurd (by first | omega | assumption | decide) hn)
          refine Ops.gu rfl rfl rfl (Dtu.mv (lk rfl)) rfl ?_
          refine Ops.gu rfl rfl rfl (Dtu.gtr (lk rfl) (lk rfl)) rfl ?_
          refine Ops.gu rfl rfl rfl (Dtu.mv (lk rfl)) rfl ?_
          refine Ops.gu rfl rfl rfl (Dtu.gtr (lk rfl) (lk rfl)) rfl ?_
          refine Ops.gu rfl rfl rfl (Dtu.eqB Try.underlying4 (lk rfl) (lk rfl)) rfl ?_
          refine Ops.u (Dtu.pickT (lk rfl) (lk rfl)) rfl ?_
          refine Ops.u (Dtu.mv (lk rfl)) rfl ?_
          refine Ops.decP 95 rfl (fun _ => ?_) (fun hn => absurd (by first | omega | assumption | decide) hn)
          refine Ops.gu rfl rfl rfl (Dtu.mv (lk rfl)) rfl ?_
          refine Ops.gu rfl rfl rfl (Dtu.lenS Try.underlying32 (Sl.osl 0 rfl) (lk rfl)) rfl ?_
          refine Ops.gu rfl rfl rfl (Dtu.mv (lk rfl)) rfl ?_
          refine Ops.gu rfl rfl rfl (Dtu.mul (lk rfl) (lk rfl) (w64 (by omega) (by omega))) rfl ?_
          refine Ops.gu rfl rfl rfl (Dtu.add (lk rfl) (lk rfl) (w64 (by omega) (by omega))) rfl ?_
          refine Ops.gu rfl rfl rfl (Dtu.leq (lk rfl) (lk rfl)) rfl ?_
          refine Ops.u (Dtu.pickT (lk rfl) (lk rfl)) rfl ?_
          refine Ops.u (Dtu.asg (lk rfl)) rfl ?_
          refine Ops.nil ?_
          refine Then.next ?_
          refine Body.ret ?_
          exact ⟨.inr rfl, _, pk [] rfl, congrArg Value.bool (decide_eq_true (by omega)), rfl⟩
      · refine Body.seq ?_
        refine Body.region ?_
        refine Ops.s (Stp.box (lk rfl) rfl (fun b2 => ?_)) rfl
        refine Ops.s (Stp.box (lk rfl) rfl (fun b3 => ?_)) rfl
        refine Ops.u (Dtu.asg (lk rfl)) rfl ?_
        refine Ops.nil ?_
        refine Then.next ?_
        refine Body.seq ?_
        refine Body.seq ?_
        refine Body.region ?_
        refine Ops.d (Det.lda Try.isAgg24 Try.sizeOf24 (lk rfl) (Rds.ow (m := 6) 1 rfl rfl) rfl) rfl ?_
        refine Ops.s (Stp.call rfl Try.call25 (lks rfl) (fun E' le hat => right_ok E' ⟨_, _, _, _, _, _⟩ _ (Sl.mono (by assumption) le)) ?_) rfl
        rintro _ _ ⟨rfl, rfl⟩
        refine Ops.u (Dtu.not (lk rfl)) rfl ?_
        refine Ops.u (Dtu.mv (lk rfl)) rfl ?_
        refine Ops.dec 14 rfl (fun hn => absurd hn (by simp [ka])) (fun _ => ?_)
        refine Ops.gd rfl rfl rfl (Det.lda Try.isAgg24 Try.sizeOf24 (lk rfl) (Rds.ow (m := 6) 0 rfl rfl) rfl) rfl ?_
        refine Ops.gs rfl rfl rfl (Stp.call rfl Try.call25 (lks rfl) (fun E' le hat => right_ok E' ⟨_, _, _, _, _, _⟩ _ (Sl.mono (by assumption) le)) ?_) rfl
        rintro _ _ ⟨rfl, rfl⟩
        refine Ops.gu rfl rfl rfl (Dtu.not (lk rfl)) rfl ?_
        refine Ops.u (Dtu.pickF (lk rfl) (lk rfl)) rfl ?_
        refine Ops.u (Dtu.mv (lk rfl)) rfl ?_
        refine Ops.dec 19 rfl (fun hn => absurd hn (by simp [kb])) (fun _ => ?_)
        refine Ops.gu rfl rfl rfl (Dtu.fld fa24_0 (lk rfl)) rfl ?_
        refine Ops.gd rfl rfl rfl (Det.ld Try.isAgg3 (lk rfl) (Rd.ow 1 rfl rfl)) rfl ?_
        refine Ops.gu rfl rfl rfl (Dtu.fld fa24_0 (lk rfl)) rfl ?_
        refine Ops.gd rfl rfl rfl (Det.ld Try.isAgg3 (lk rfl) (Rd.ow 0 rfl rfl)) rfl ?_
        refine Ops.gu rfl rfl rfl (Dtu.neq (lk rfl) (lk rfl)) rfl ?_
        refine Ops.u (Dtu.pickF (lk rfl) (lk rfl)) rfl ?_
        refine Ops.u (Dtu.mv (lk rfl)) rfl ?_
        refine Ops.decP 26 rfl (fun c26 => ?_) (fun c26 => ?_)
        · refine Ops.gn rfl rfl rfl rfl rfl ?_
          refine Ops.gn rfl rfl rfl rfl rfl ?_
          refine Ops.gn rfl rfl rfl rfl rfl ?_
          refine Ops.gn rfl rfl rfl rfl rfl ?_
          refine Ops.gn rfl rfl rfl rfl rfl ?_
          refine Ops.u (Dtu.pickT (lk rfl) (lk rfl)) rfl ?_
          refine Ops.u (Dtu.mv (lk rfl)) rfl ?_
          refine Ops.gn rfl rfl rfl rfl rfl ?_
          refine Ops.gn rfl rfl rfl rfl rfl ?_
          refine Ops.gn rfl rfl rfl rfl rfl ?_
          refine Ops.gn rfl rfl rfl rfl rfl ?_
          refine Ops.gn rfl rfl rfl rfl rfl ?_
          refine Ops.gn rfl rfl rfl rfl rfl ?_
          refine Ops.gn rfl rfl rfl rfl rfl ?_
          refine Ops.u (Dtu.pickT (lk rfl) (lk rfl)) rfl ?_
          refine Ops.nil ?_
          refine Then.next ?_
          refine Body.condT (lk rfl) ?_
          refine Body.seq ?_
          refine Body.region ?_
          refine Ops.s (Stp.call rfl Try.call15 (lks rfl) (fun E' le hat => alive21_ok E') ?_) rfl
          rintro _ _ ⟨rfl, rfl⟩
          refine Ops.u (Dtu.asg (lk rfl)) rfl ?_
          refine Ops.nil ?_
          refine Then.next ?_
          refine Body.ret ?_
          refine Then.ret ?_
          (exact ⟨.inr rfl, _, pk [] rfl, rfl, rfl⟩)
        · refine Ops.gu rfl rfl rfl (Dtu.fld fa24_1 (lk rfl)) rfl ?_
          refine Ops.gd rfl rfl rfl (Det.ld Try.isAgg3 (lk rfl) (Rd.ow 1 rfl rfl)) rfl ?_
          refine Ops.gu rfl rfl rfl (Dtu.fld fa24_1 (lk rfl)) rfl ?_
          refine Ops.gd rfl rfl rfl (Det.ld Try.isAgg3 (lk rfl) (Rd.ow 0 rfl rfl)) rfl ?_
          refine Ops.gu rfl rfl rfl (Dtu.neq (lk rfl) (lk rfl)) rfl ?_
          refine Ops.u (Dtu.pickF (lk rfl) (lk rfl)) rfl ?_
          refine Ops.u (Dtu.mv (lk rfl)) rfl ?_
          refine Ops.decP 33 rfl (fun c33 => ?_) (fun c33 => ?_)
          · refine Ops.gn rfl rfl rfl rfl rfl ?_
            refine Ops.gn rfl rfl rfl rfl rfl ?_
            refine Ops.gn rfl rfl rfl rfl rfl ?_
            refine Ops.gn rfl rfl rfl rfl rfl ?_
            refine Ops.gn rfl rfl rfl rfl rfl ?_
            refine Ops.gn rfl rfl rfl rfl rfl ?_
            refine Ops.gn rfl rfl rfl rfl rfl ?_
            refine Ops.u (Dtu.pickT (lk rfl) (lk rfl)) rfl ?_
            refine Ops.nil ?_
            refine Then.next ?_
            refine Body.condT (lk rfl) ?_
            refine Body.seq ?_
            refine Body.region ?_
            refine Ops.s (Stp.call rfl Try.call15 (lks rfl) (fun E' le hat => alive21_ok E') ?_) rfl
            rintro _ _ ⟨rfl, rfl⟩
            refine Ops.u (Dtu.asg (lk rfl)) rfl ?_
            refine Ops.nil ?_
            refine Then.next ?_
            refine Body.ret ?_
            refine Then.ret ?_
            (exact ⟨.inr rfl, _, pk [] rfl, rfl, rfl⟩)
          · refine Ops.gu rfl rfl rfl (Dtu.fld fa24_2 (lk rfl)) rfl ?_
            refine Ops.gd rfl rfl rfl (Det.ld Try.isAgg22 (lk rfl) (Rd.ow 1 rfl rfl)) rfl ?_
            refine Ops.gu rfl rfl rfl (Dtu.lenS Try.underlying22 (Sl.up ha) (lk rfl)) rfl ?_
            refine Ops.gu rfl rfl rfl (Dtu.fld fa24_2 (lk rfl)) rfl ?_
            refine Ops.gd rfl rfl rfl (Det.ld Try.isAgg22 (lk rfl) (Rd.ow 0 rfl rfl)) rfl ?_
            refine Ops.gu rfl rfl rfl (Dtu.lenS Try.underlying22 (Sl.up hb) (lk rfl)) rfl ?_
            refine Ops.gu rfl rfl rfl (Dtu.neq (lk rfl) (lk rfl)) rfl ?_
            refine Ops.u (Dtu.pickF (lk rfl) (lk rfl)) rfl ?_
            refine Ops.nil ?_
            refine Then.next ?_
            refine Body.condP (lk rfl) (fun _ => ?_) (fun hn => absurd (by first | omega | assumption | decide) hn)
            refine Body.seq ?_
            refine Body.region ?_
            refine Ops.s (Stp.call rfl Try.call15 (lks rfl) (fun E' le hat => alive21_ok E') ?_) rfl
            rintro _ _ ⟨rfl, rfl⟩
            refine Ops.u (Dtu.asg (lk rfl)) rfl ?_
            refine Ops.nil ?_
            refine Then.next ?_
            refine Body.ret ?_
            refine Then.ret ?_
            (exact ⟨.inr rfl, _, pk [] rfl, rfl, rfl⟩)
end Go.Proofs.Ytijjjdljdjnbaaa
