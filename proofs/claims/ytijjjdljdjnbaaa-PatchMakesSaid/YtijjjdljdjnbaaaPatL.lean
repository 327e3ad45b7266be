/- PatchMakes: what it computes. -/
import Derived.Test.YtijjjdljdjnbaaaPatK
namespace Go.Proofs.Ytijjjdljdjnbaaa
set_option maxRecDepth 100000
set_option linter.unusedVariables false
set_option linter.unusedSimpArgs false
open Go.Sx

theorem apply_dif (E : Env) {a b : View} (ka : a.ok = true) (kb : b.ok = true) (fa : ∀ c ∈ a.cells, c.Fl) (fb : ∀ c ∈ b.cells, c.Fl) (s v : Value) (hs : a.has E [] s) (h : Sl E [] 1 v (difB a b).length ((difB a b).map (.int .u8))) : Does Try.prog 20 #[a.val s, v] E [] fun r H' => ∃ (z1 : Option Addr) (z2 z3 : Nat), r = .tuple #[b.val (.slice z1 z2 z3), .int .i64 0] ∧ H' = [osl 55 4 (.slice z1 z2 z3) b.cells.length (b.cells.flatMap Cell.enc)] := by
  have hl := difB_len ka kb
  have h4 := ok_480 kb
  have h5 := others_le (difP a b)
  rw [difP_len ka kb] at h5
  have := apply_ok E a s v (difB a b) hs h (difB_byt kb fb) (by omega) fa
  rw [applyV_dif ka kb] at this
  intro w s0
  refine (this w s0).mono ?_
  rintro e w' ⟨r, H', he, ⟨s', rfl, rfl⟩, s1⟩
  obtain ⟨z1, m, z3, rfl⟩ := Sl.isSl (Sl.osl (H := [osl 55 4 s' b.cells.length (b.cells.flatMap Cell.enc)]) 0 rfl) w' s1
  exact ⟨_, _, he, ⟨z1, m, z3, rfl, rfl⟩, s1⟩
set_option maxHeartbeats 3200000 in
theorem makes_ok (E : Env) (a b c : View) (s t q : Value) (ha : a.has E [] s) (hb : b.has E [] t) (hc : c.has E [] q) (fa : ∀ x ∈ a.cells, x.Fl) (fb : ∀ x ∈ b.cells, x.Fl) (fc : ∀ x ∈ c.cells, x.Fl) : Does Try.prog 5 #[a.val s, b.val t, c.val q] E [] fun r H' => r = .bool true ∧ H' = [] := by
  unfold View.has at ha hb hc
  refine Does.pure ha.isSl fun hs => ?_
  obtain ⟨sa, sm, sc, rfl⟩ := hs
  refine Does.pure hb.isSl fun hs => ?_
  obtain ⟨ta, tm, tc, rfl⟩ := hs
  refine Does.pure hc.isSl fun hs => ?_
  obtain ⟨qa, qm, qc, rfl⟩ := hs
  refine Does.go (args := [a.val _, b.val _, c.val _]) _ _ Try.func5 rfl Try.ntmps5 rfl rfl ?_
  cases ka : a.ok with
  | false =>
    refine Body.seq ?_
    refine Body.region ?_
    refine Ops.s (Stp.box (lk rfl) rfl (fun b3 => ?_)) rfl
    refine Ops.s (Stp.box (lk rfl) rfl (fun b4 => ?_)) rfl
    refine Ops.s (Stp.box (lk rfl) rfl (fun b5 => ?_)) rfl
    refine Ops.u (Dtu.asg (lk rfl)) rfl ?_
    refine Ops.nil ?_
    refine Then.next ?_
    refine Body.seq ?_
    refine Body.seq ?_
    refine Body.region ?_
    refine Ops.d (Det.lda Try.isAgg24 Try.sizeOf24 (lk rfl) (Rds.ow (m := 6) 2 rfl rfl) rfl) rfl ?_
    refine Ops.s (Stp.call rfl Try.call25 (lks rfl) (fun E' le hat => right_ok E' ⟨_, _, _, _, _, _⟩ _ (Sl.mono (by assumption) le)) ?_) rfl
    rintro _ _ ⟨rfl, rfl⟩
    refine Ops.u (Dtu.not (lk rfl)) rfl ?_
    refine Ops.u (Dtu.mv (lk rfl)) rfl ?_
    refine Ops.dec 24 rfl (fun _ => ?_) (fun hn => absurd hn (by simp [ka]))
    refine Ops.gn rfl rfl rfl rfl rfl ?_
    refine Ops.gn rfl rfl rfl rfl rfl ?_
    refine Ops.gn rfl rfl rfl rfl rfl ?_
    refine Ops.u (Dtu.pickT (lk rfl) (lk rfl)) rfl ?_
    refine Ops.u (Dtu.mv (lk rfl)) rfl ?_
    refine Ops.gn rfl rfl rfl rfl rfl ?_
    refine Ops.gn rfl rfl rfl rfl rfl ?_
    refine Ops.gn rfl rfl rfl rfl rfl ?_
    refine Ops.u (Dtu.pickT (lk rfl) (lk rfl)) rfl ?_
    refine Ops.nil ?_
    refine Then.next ?_
    refine Body.condT (lk rfl) ?_
    refine Body.seq ?_
    refine Body.region ?_
    refine Ops.s (Stp.call rfl Try.call15 (lks rfl) (fun E' le hat => alive21_ok E') ?_) rfl
    rintro _ _ ⟨rfl, rfl⟩
    refine Ops.u (Dtu.asg (lk rfl)) rfl ?_
    refine Ops.nil ?_
    refine Then.next ?_
    refine Body.ret ?_
    refine Then.ret ?_
    exact ⟨.inr rfl, _, pk [] rfl, rfl, rfl⟩
  | true =>
    cases kb : b.ok with
    | false =>
      refine Body.seq ?_
      refine Body.region ?_
      refine Ops.s (Stp.box (lk rfl) rfl (fun b3 => ?_)) rfl
      refine Ops.s (Stp.box (lk rfl) rfl (fun b4 => ?_)) rfl
      refine Ops.s (Stp.box (lk rfl) rfl (fun b5 => ?_)) rfl
      refine Ops.u (Dtu.asg (lk rfl)) rfl ?_
      refine Ops.nil ?_
      refine Then.next ?_
      refine Body.seq ?_
      refine Body.seq ?_
      refine Body.region ?_
      refine Ops.d (Det.lda Try.isAgg24 Try.sizeOf24 (lk rfl) (Rds.ow (m := 6) 2 rfl rfl) rfl) rfl ?_
      refine Ops.s (Stp.call rfl Try.call25 (lks rfl) (fun E' le hat => right_ok E' ⟨_, _, _, _, _, _⟩ _ (Sl.mono (by assumption) le)) ?_) rfl
      rintro _ _ ⟨rfl, rfl⟩
      refine Ops.u (Dtu.not (lk rfl)) rfl ?_
      refine Ops.u (Dtu.mv (lk rfl)) rfl ?_
      refine Ops.dec 24 rfl (fun hn => absurd hn (by simp [ka])) (fun _ => ?_)
      refine Ops.gd rfl rfl rfl (Det.lda Try.isAgg24 Try.sizeOf24 (lk rfl) (Rds.ow (m := 6) 1 rfl rfl) rfl) rfl ?_
      refine Ops.gs rfl rfl rfl (Stp.call rfl Try.call25 (lks rfl) (fun E' le hat => right_ok E' ⟨_, _, _, _, _, _⟩ _ (Sl.mono (by assumption) le)) ?_) rfl
      rintro _ _ ⟨rfl, rfl⟩
      refine Ops.gu rfl rfl rfl (Dtu.not (lk rfl)) rfl ?_
      refine Ops.u (Dtu.pickF (lk rfl) (lk rfl)) rfl ?_
      refine Ops.u (Dtu.mv (lk rfl)) rfl ?_
      refine Ops.dec 29 rfl (fun _ => ?_) (fun hn => absurd hn (by simp [kb]))
      refine Ops.gn rfl rfl rfl rfl rfl ?_
      refine Ops.gn rfl rfl rfl rfl rfl ?_
      refine Ops.gn rfl rfl rfl rfl rfl ?_
      refine Ops.u (Dtu.pickT (lk rfl) (lk rfl)) rfl ?_
      refine Ops.nil ?_
      refine Then.next ?_
      refine Body.condT (lk rfl) ?_
      refine Body.seq ?_
      refine Body.region ?_
      refine Ops.s (Stp.call rfl Try.call15 (lks rfl) (fun E' le hat => alive21_ok E') ?_) rfl
      rintro _ _ ⟨rfl, rfl⟩
      refine Ops.u (Dtu.asg (lk rfl)) rfl ?_
      refine Ops.nil ?_
      refine Then.next ?_
      refine Body.ret ?_
      refine Then.ret ?_
      exact ⟨.inr rfl, _, pk [] rfl, rfl, rfl⟩
    | true =>
      cases kc : c.ok with
      | false =>
        refine Body.seq ?_
        refine Body.region ?_
        refine Ops.s (Stp.box (lk rfl) rfl (fun b3 => ?_)) rfl
        refine Ops.s (Stp.box (lk rfl) rfl (fun b4 => ?_)) rfl
        refine Ops.s (Stp.box (lk rfl) rfl (fun b5 => ?_)) rfl
        refine Ops.u (Dtu.asg (lk rfl)) rfl ?_
        refine Ops.nil ?_
        refine Then.next ?_
        refine Body.seq ?_
        refine Body.seq ?_
        refine Body.region ?_
        refine Ops.d (Det.lda Try.isAgg24 Try.sizeOf24 (lk rfl) (Rds.ow (m := 6) 2 rfl rfl) rfl) rfl ?_
        refine Ops.s (Stp.call rfl Try.call25 (lks rfl) (fun E' le hat => right_ok E' ⟨_, _, _, _, _, _⟩ _ (Sl.mono (by assumption) le)) ?_) rfl
        rintro _ _ ⟨rfl, rfl⟩
        refine Ops.u (Dtu.not (lk rfl)) rfl ?_
        refine Ops.u (Dtu.mv (lk rfl)) rfl ?_
        refine Ops.dec 24 rfl (fun hn => absurd hn (by simp [ka])) (fun _ => ?_)
        refine Ops.gd rfl rfl rfl (Det.lda Try.isAgg24 Try.sizeOf24 (lk rfl) (Rds.ow (m := 6) 1 rfl rfl) rfl) rfl ?_
        refine Ops.gs rfl rfl rfl (Stp.call rfl Try.call25 (lks rfl) (fun E' le hat => right_ok E' ⟨_, _, _, _, _, _⟩ _ (Sl.mono (by assumption) le)) ?_) rfl
        rintro _ _ ⟨rfl, rfl⟩
        refine Ops.gu rfl rfl rfl (Dtu.not (lk rfl)) rfl ?_
        refine Ops.u (Dtu.pickF (lk rfl) (lk rfl)) rfl ?_
        refine Ops.u (Dtu.mv (lk rfl)) rfl ?_
        refine Ops.dec 29 rfl (fun hn => absurd hn (by simp [kb])) (fun _ => ?_)
        refine Ops.gd rfl rfl rfl (Det.lda Try.isAgg24 Try.sizeOf24 (lk rfl) (Rds.ow (m := 6) 0 rfl rfl) rfl) rfl ?_
        refine Ops.gs rfl rfl rfl (Stp.call rfl Try.call25 (lks rfl) (fun E' le hat => right_ok E' ⟨_, _, _, _, _, _⟩ _ (Sl.mono (by assumption) le)) ?_) rfl
        rintro _ _ ⟨rfl, rfl⟩
        refine Ops.gu rfl rfl rfl (Dtu.not (lk rfl)) rfl ?_
        refine Ops.u (Dtu.pickF (lk rfl) (lk rfl)) rfl ?_
        refine Ops.nil ?_
        refine Then.next ?_
        refine Body.cond (lk rfl) (fun _ => ?_) (fun hn => absurd hn (by simp [kc]))
        refine Body.seq ?_
        refine Body.region ?_
        refine Ops.s (Stp.call rfl Try.call15 (lks rfl) (fun E' le hat => alive21_ok E') ?_) rfl
        rintro _ _ ⟨rfl, rfl⟩
        refine Ops.u (Dtu.asg (lk rfl)) rfl ?_
        refine Ops.nil ?_
        refine Then.next ?_
        refine Body.ret ?_
        refine Then.ret ?_
        exact ⟨.inr rfl, _, pk [] rfl, rfl, rfl⟩
      | true =>
        have h4 := ok_480 kb
        obtain ⟨q1, q2, q3, q4⟩ : (difB (View.mk a.rows a.cols a.cells a.row a.col a.vis) (View.mk b.rows b.cols b.cells b.row b.col b.vis)).length ≤ 5 + 17 * others (difP (View.mk a.rows a.cols a.cells a.row a.col a.vis) (View.mk b.rows b.cols b.cells b.row b.col b.vis)) ∧ (difR 0 [] (difP (View.mk a.rows a.cols a.cells a.row a.col a.vis) (View.mk b.rows b.cols b.cells b.row b.col b.vis))).length ≤ others (difP (View.mk a.rows a.cols a.cells a.row a.col a.vis) (View.mk b.rows b.cols b.cells b.row b.col b.vis)) ∧ (0 < (difR 0 [] (difP (View.mk a.rows a.cols a.cells a.row a.col a.vis) (View.mk b.rows b.cols b.cells b.row b.col b.vis))).length ↔ 5 < (difB (View.mk a.rows a.cols a.cells a.row a.col a.vis) (View.mk b.rows b.cols b.cells b.row b.col b.vis)).length) ∧ (0 < (difR 0 [] (difP (View.mk a.rows a.cols a.cells a.row a.col a.vis) (View.mk b.rows b.cols b.cells b.row b.col b.vis))).length ↔ 0 < others (difP (View.mk a.rows a.cols a.cells a.row a.col a.vis) (View.mk b.rows b.cols b.cells b.row b.col b.vis))) := difB_len ka kb
        have q5 : others (difP (View.mk a.rows a.cols a.cells a.row a.col a.vis) (View.mk b.rows b.cols b.cells b.row b.col b.vis)) ≤ b.cells.length := by have := others_le (difP (View.mk a.rows a.cols a.cells a.row a.col a.vis) (View.mk b.rows b.cols b.cells b.row b.col b.vis)); rw [show (difP (View.mk a.rows a.cols a.cells a.row a.col a.vis) (View.mk b.rows b.cols b.cells b.row b.col b.vis)).length = b.cells.length from difP_len ka kb] at this; exact this
        have hR := fun (E' : Env) (v : Value) (h : Sl E' [] 1 v (difB (View.mk a.rows a.cols a.cells a.row a.col a.vis) (View.mk b.rows b.cols b.cells b.row b.col b.vis)).length ((difB (View.mk a.rows a.cols a.cells a.row a.col a.vis) (View.mk b.rows b.cols b.cells b.row b.col b.vis)).map (.int .u8))) => runs_dif E' (a := (View.mk a.rows a.cols a.cells a.row a.col a.vis)) (b := (View.mk b.rows b.cols b.cells b.row b.col b.vis)) ka kb fb v h
        have hself : (View.mk a.rows a.cols a.cells a.row a.col a.vis) = (View.mk b.rows b.cols b.cells b.row b.col b.vis) → (difB (View.mk a.rows a.cols a.cells a.row a.col a.vis) (View.mk b.rows b.cols b.cells b.row b.col b.vis)).length ≤ 5 := fun e => by
          rw [← e, difP_self, others_self] at q1
          rw [← e]; omega
        have h0 : 5 ≤ (difB (View.mk a.rows a.cols a.cells a.row a.col a.vis) (View.mk b.rows b.cols b.cells b.row b.col b.vis)).length := by
          have : difB (View.mk a.rows a.cols a.cells a.row a.col a.vis) (View.mk b.rows b.cols b.cells b.row b.col b.vis) = View.head (View.mk b.rows b.cols b.cells b.row b.col b.vis) ++ (difR 0 [] (difP (View.mk a.rows a.cols a.cells a.row a.col a.vis) (View.mk b.rows b.cols b.cells b.row b.col b.vis))).flatMap encR := rfl
          rw [this, List.length_append, head_len]; omega
        generalize (difR 0 [] (difP (View.mk a.rows a.cols a.cells a.row a.col a.vis) (View.mk b.rows b.cols b.cells b.row b.col b.vis))).length = nr at *
        generalize others (difP (View.mk a.rows a.cols a.cells a.row a.col a.vis) (View.mk b.rows b.cols b.cells b.row b.col b.vis)) = no at *
        refine Body.seq ?_
        refine Body.region ?_
        refine Ops.s (Stp.box (lk rfl) rfl (fun b3 => ?_)) rfl
        refine Ops.s (Stp.box (lk rfl) rfl (fun b4 => ?_)) rfl
        refine Ops.s (Stp.box (lk rfl) rfl (fun b5 => ?_)) rfl
        refine Ops.u (Dtu.asg (lk rfl)) rfl ?_
        refine Ops.nil ?_
        refine Then.next ?_
        refine Body.seq ?_
        refine Body.seq ?_
        refine Body.region ?_
        refine Ops.d (Det.lda Try.isAgg24 Try.sizeOf24 (lk rfl) (Rds.ow (m := 6) 2 rfl rfl) rfl) rfl ?_
        refine Ops.s (Stp.call rfl Try.call25 (lks rfl) (fun E' le hat => right_ok E' ⟨_, _, _, _, _, _⟩ _ (Sl.mono (by assumption) le)) ?_) rfl
        rintro _ _ ⟨rfl, rfl⟩
        refine Ops.u (Dtu.not (lk rfl)) rfl ?_
        refine Ops.u (Dtu.mv (lk rfl)) rfl ?_
        refine Ops.dec 24 rfl (fun hn => absurd hn (by simp [ka])) (fun _ => ?_)
        refine Ops.gd rfl rfl rfl (Det.lda Try.isAgg24 Try.sizeOf24 (lk rfl) (Rds.ow (m := 6) 1 rfl rfl) rfl) rfl ?_
        refine Ops.gs rfl rfl rfl (Stp.call rfl Try.call25 (lks rfl) (fun E' le hat => right_ok E' ⟨_, _, _, _, _, _⟩ _ (Sl.mono (by assumption) le)) ?_) rfl
        rintro _ _ ⟨rfl, rfl⟩
        refine Ops.gu rfl rfl rfl (Dtu.not (lk rfl)) rfl ?_
        refine Ops.u (Dtu.pickF (lk rfl) (lk rfl)) rfl ?_
        refine Ops.u (Dtu.mv (lk rfl)) rfl ?_
        refine Ops.dec 29 rfl (fun hn => absurd hn (by simp [kb])) (fun _ => ?_)
        refine Ops.gd rfl rfl rfl (Det.lda Try.isAgg24 Try.sizeOf24 (lk rfl) (Rds.ow (m := 6) 0 rfl rfl) rfl) rfl ?_
        refine Ops.gs rfl rfl rfl (Stp.call rfl Try.call25 (lks rfl) (fun E' le hat => right_ok E' ⟨_, _, _, _, _, _⟩ _ (Sl.mono (by assumption) le)) ?_) rfl
        rintro _ _ ⟨rfl, rfl⟩
        refine Ops.gu rfl rfl rfl (Dtu.not (lk rfl)) rfl ?_
        refine Ops.u (Dtu.pickF (lk rfl) (lk rfl)) rfl ?_
        refine Ops.nil ?_
        refine Then.next ?_
        refine Body.cond (lk rfl) (fun hn => absurd hn (by simp [kc])) (fun _ => ?_)
        refine Body.skip ?_
        refine Then.next ?_
        refine Body.seq ?_
        refine Body.region ?_
        refine Ops.d (Det.lda Try.isAgg24 Try.sizeOf24 (lk rfl) (Rds.ow (m := 6) 2 rfl rfl) rfl) rfl ?_
        refine Ops.d (Det.lda Try.isAgg24 Try.sizeOf24 (lk rfl) (Rds.ow (m := 6) 1 rfl rfl) rfl) rfl ?_
        refine Ops.s (Stp.call rfl Try.call17 (lks rfl) (fun E' le hat => diff_ok E' ⟨_, _, _, _, _, _⟩ ⟨_, _, _, _, _, _⟩ _ _ (Sl.mono (by assumption) le) (Sl.mono (by assumption) le) (by assumption) (by assumption)) ?_) rfl
        rintro _ _ ⟨s38, rfl, rfl⟩
        refine Ops.u (Dtu.mv (lk rfl)) rfl ?_
        refine Ops.u (Dtu.ext (lk rfl) rfl) rfl ?_
        refine Ops.u (Dtu.ext (lk rfl) rfl) rfl ?_
        refine Ops.u (Dtu.asg (lk rfl)) rfl ?_
        refine Ops.u (Dtu.asg (lk rfl)) rfl ?_
        refine Ops.nil ?_
        refine Then.next ?_
        refine Body.seq ?_
        refine Body.region ?_
        refine Ops.d (Det.lda Try.isAgg24 Try.sizeOf24 (lk rfl) (Rds.ow (m := 6) 3 rfl rfl) rfl) rfl ?_
        refine Ops.u (Dtu.mv (lk rfl)) rfl ?_
        refine Ops.s (Stp.call rfl Try.call20 (lks rfl) (fun E' le hat => apply_dif E' (a := (View.mk a.rows a.cols a.cells a.row a.col a.vis)) (b := (View.mk b.rows b.cols b.cells b.row b.col b.vis)) ka kb fa fb _ _ (Sl.mono ha le) (Sl.at (hat _ (.head _)))) ?_) rfl
        rintro _ _ ⟨v1, v2, v3, rfl, rfl⟩
        refine Ops.u (Dtu.mv (lk rfl)) rfl ?_
        refine Ops.u (Dtu.ext (lk rfl) rfl) rfl ?_
        refine Ops.u (Dtu.ext (lk rfl) rfl) rfl ?_
        refine Ops.s (Stp.alloc ty24 (fun b9 => ?_)) rfl
        refine Ops.e (Stp.store 0 Try.sizeOf24 (lk rfl) (lk rfl) rfl rfl rfl rfl rfl rfl rfl ?_)
        refine Ops.u (Dtu.asg (lk rfl)) rfl ?_
        refine Ops.nil ?_
        refine Then.next ?_
        refine Body.seq ?_
        refine Body.region ?_
        refine Ops.d (Det.lda Try.isAgg24 Try.sizeOf24 (lk rfl) (Rds.ow (m := 6) 5 rfl rfl) rfl) rfl ?_
        refine Ops.d (Det.lda Try.isAgg24 Try.sizeOf24 (lk rfl) (Rds.ow (m := 6) 3 rfl rfl) rfl) rfl ?_
        refine Ops.s (Stp.call rfl Try.call17 (lks rfl) (fun E' le hat => diff_ok E' ⟨_, _, _, _, _, _⟩ ⟨_, _, _, _, _, _⟩ _ _ (Sl.mono (by assumption) le) (Sl.mono (by assumption) le) (by assumption) (by assumption)) ?_) rfl
        rintro _ _ ⟨s50, rfl, rfl⟩
        refine Ops.u (Dtu.mv (lk rfl)) rfl ?_
        refine Ops.u (Dtu.ext (lk rfl) rfl) rfl ?_
        refine Ops.u (Dtu.ext (lk rfl) rfl) rfl ?_
        refine Ops.u (Dtu.asg (lk rfl)) rfl ?_
        refine Ops.u (Dtu.asg (lk rfl)) rfl ?_
        refine Ops.nil ?_
        refine Then.next ?_
        refine Body.seq ?_
        refine Body.region ?_
        refine Ops.d (Det.lda Try.isAgg24 Try.sizeOf24 (lk rfl) (Rds.ow (m := 6) 6 rfl rfl) rfl) rfl ?_
        refine Ops.u (Dtu.mv (lk rfl)) rfl ?_
        refine Ops.s (Stp.call rfl Try.call20 (lks rfl) (fun E' le hat => apply_dif E' (a := (View.mk a.rows a.cols a.cells a.row a.col a.vis)) (b := (View.mk c.rows c.cols c.cells c.row c.col c.vis)) ka kc fa fc _ _ (Sl.mono ha le) (Sl.at (hat _ (.head _)))) ?_) rfl
        rintro _ _ ⟨x1, x2, x3, rfl, rfl⟩
        refine Ops.u (Dtu.mv (lk rfl)) rfl ?_
        refine Ops.u (Dtu.ext (lk rfl) rfl) rfl ?_
        refine Ops.u (Dtu.ext (lk rfl) rfl) rfl ?_
        refine Ops.s (Stp.alloc ty24 (fun b13 => ?_)) rfl
        refine Ops.e (Stp.store 0 Try.sizeOf24 (lk rfl) (lk rfl) rfl rfl rfl rfl rfl rfl rfl ?_)
        refine Ops.u (Dtu.asg (lk rfl)) rfl ?_
        refine Ops.nil ?_
        refine Then.next ?_
        refine Body.seq ?_
        refine Body.region ?_
        refine Ops.d (Det.lda Try.isAgg24 Try.sizeOf24 (lk rfl) (Rds.ow (m := 6) 0 rfl rfl) rfl) rfl ?_
        refine Ops.d (Det.lda Try.isAgg24 Try.sizeOf24 (lk rfl) (Rds.ow (m := 6) 7 rfl rfl) rfl) rfl ?_
        have hy1 : (View.mk b.rows b.cols b.cells b.row b.col b.vis) = (View.mk b.rows b.cols b.cells b.row b.col b.vis) := rfl
        have hy2 : (View.mk c.rows c.cols c.cells c.row c.col c.vis) = (View.mk c.rows c.cols c.cells c.row c.col c.vis) := rfl
        refine Ops.s (Stp.call rfl Try.call17 (lks rfl) (fun E' le hat => diff_ok E' (View.mk c.rows c.cols c.cells c.row c.col c.vis) (View.mk b.rows b.cols b.cells b.row b.col b.vis) _ _ (Sl.at (hat _ (.tail _ (.head _)))) (Sl.mono hb le) kc kb) ?_) rfl
        rintro _ _ ⟨s62, rfl, rfl⟩
        refine Ops.u (Dtu.mv (lk rfl)) rfl ?_
        refine Ops.u (Dtu.ext (lk rfl) rfl) rfl ?_
        refine Ops.u (Dtu.ext (lk rfl) rfl) rfl ?_
        refine Ops.u (Dtu.asg (lk rfl)) rfl ?_
        refine Ops.u (Dtu.asg (lk rfl)) rfl ?_
        refine Ops.nil ?_
        refine Then.next ?_
        refine Body.seq ?_
        refine Body.region ?_
        refine Ops.d (Det.lda Try.isAgg24 Try.sizeOf24 (lk rfl) (Rds.ow (m := 6) 1 rfl rfl) rfl) rfl ?_
        refine Ops.u (Dtu.mv (lk rfl)) rfl ?_
        refine Ops.s (Stp.call rfl Try.call20 (lks rfl) (fun E' le hat => apply_dif E' (a := (View.mk c.rows c.cols c.cells c.row c.col c.vis)) (b := (View.mk b.rows b.cols b.cells b.row b.col b.vis)) kc kb fc fb _ _ (Sl.at (hat _ (.tail _ (.tail _ (.head _))))) (Sl.at (hat _ (.head _)))) ?_) rfl
        rintro _ _ ⟨w1, w2, w3, rfl, rfl⟩
        refine Ops.u (Dtu.mv (lk rfl)) rfl ?_
        refine Ops.u (Dtu.ext (lk rfl) rfl) rfl ?_
        refine Ops.u (Dtu.ext (lk rfl) rfl) rfl ?_
        refine Ops.s (Stp.alloc ty24 (fun b17 => ?_)) rfl
        refine Ops.e (Stp.store 0 Try.sizeOf24 (lk rfl) (lk rfl) rfl rfl rfl rfl rfl rfl rfl ?_)
        refine Ops.u (Dtu.asg (lk rfl)) rfl ?_
        refine Ops.nil ?_
        refine Then.next ?_
        refine Body.seq ?_
        refine Body.region ?_
        refine Ops.u (Dtu.mv (lk rfl)) rfl ?_
        refine Ops.s (Stp.call rfl Try.call22 (lks rfl) (fun E' le hat => hR E' _ (Sl.at (hat _ (.tail _ (.tail _ (.tail _ (.tail _ (.tail _ (.tail _ (.tail _ (.tail _ (.head _)))))))))))) ?_) rfl
        rintro _ _ ⟨rfl, rfl⟩
        refine Ops.u (Dtu.mv (lk rfl)) rfl ?_
        refine Ops.u (Dtu.ext (lk rfl) rfl) rfl ?_
        refine Ops.u (Dtu.ext (lk rfl) rfl) rfl ?_
        refine Ops.u (Dtu.asg (lk rfl)) rfl ?_
        refine Ops.u (Dtu.asg (lk rfl)) rfl ?_
        refine Ops.nil ?_
        refine Then.next ?_
        refine Body.seq ?_
        refine Body.region ?_
        refine Ops.s (Stp.call rfl Try.call15 (lks rfl) (fun E' le hat => alive21_ok E') ?_) rfl
        rintro _ _ ⟨rfl, rfl⟩
        refine Ops.u (Dtu.mv (lk rfl)) rfl ?_
        refine Ops.gu rfl rfl rfl (Dtu.mv (lk rfl)) rfl ?_
        refine Ops.gu rfl rfl rfl (Dtu.eql (lk rfl) (lk rfl)) rfl ?_
        refine Ops.u (Dtu.pickT (lk rfl) (lk rfl)) rfl ?_
        refine Ops.u (Dtu.mv (lk rfl)) rfl ?_
        refine Ops.decP 81 rfl (fun _ => ?_) (fun hn => absurd (by first | omega | assumption | decide) hn)
        refine Ops.gu rfl rfl rfl (Dtu.mv (lk rfl)) rfl ?_
        refine Ops.gu rfl rfl rfl (Dtu.eql (lk rfl) (lk rfl)) rfl ?_
        refine Ops.u (Dtu.pickT (lk rfl) (lk rfl)) rfl ?_
        refine Ops.u (Dtu.mv (lk rfl)) rfl ?_
        refine Ops.decP 85 rfl (fun _ => ?_) (fun hn => absurd (by first | omega | assumption | decide) hn)
        refine Ops.gd rfl rfl rfl (Det.lda Try.isAgg24 Try.sizeOf24 (lk rfl) (Rds.ow (m := 6) 6 rfl rfl) rfl) rfl ?_
        refine Ops.gd rfl rfl rfl (Det.lda Try.isAgg24 Try.sizeOf24 (lk rfl) (Rds.ow (m := 6) 10 rfl rfl) rfl) rfl ?_
        refine Ops.gs rfl rfl rfl (Stp.call rfl Try.call26 (lks rfl) (fun E' le hat => same_ok E' (View.mk b.rows b.cols b.cells b.row b.col b.vis) (View.mk b.rows b.cols b.cells b.row b.col b.vis) (.slice v1 v2 v3) (.slice ta tm tc) (Sl.at (hat _ (.tail _ (.tail _ (.tail _ (.tail _ (.tail _ (.tail _ (.tail _ (.head _)))))))))) (Sl.mono hb le)) ?_) rfl
        rintro _ _ ⟨rfl, rfl⟩
        refine Ops.u (Dtu.pickT (lk rfl) (lk rfl)) rfl ?_
        refine Ops.u (Dtu.mv (lk rfl)) rfl ?_
        refine Ops.decP 90 rfl (fun _ => ?_) (fun hn => absurd (by first | omega | assumption | decide) hn)
        refine Ops.gu rfl rfl rfl (Dtu.mv (lk rfl)) rfl ?_
        refine Ops.gu rfl rfl rfl (Dtu.lenS Try.underlying32 (Sl.osl 8 rfl) (lk rfl)) rfl ?_
        refine Ops.gu rfl rfl rfl (Dtu.leq (lk rfl) (lk rfl)) rfl ?_
        refine Ops.u (Dtu.pickT (lk rfl) (lk rfl)) rfl ?_
        refine Ops.u (Dtu.mv (lk rfl)) rfl ?_
        refine Ops.decP 95 rfl (fun _ => ?_) (fun hn => absurd (by first | omega | assumption | decide) hn)
        refine Ops.gu rfl rfl rfl (Dtu.mv (lk rfl)) rfl ?_
        refine Ops.gu rfl rfl rfl (Dtu.eql (lk rfl) (lk rfl)) rfl ?_
        refine Ops.u (Dtu.pickT (lk rfl) (lk rfl)) rfl ?_
        refine Ops.u (Dtu.mv (lk rfl)) rfl ?_
        refine Ops.decP 99 rfl (fun _ => ?_) (fun hn => absurd (by first | omega | assumption | decide) hn)
        refine Ops.gu rfl rfl rfl (Dtu.mv (lk rfl)) rfl ?_
        refine Ops.gu rfl rfl rfl (Dtu.eql (lk rfl) (lk rfl)) rfl ?_
        refine Ops.u (Dtu.pickT (lk rfl) (lk rfl)) rfl ?_
        refine Ops.u (Dtu.mv (lk rfl)) rfl ?_
        refine Ops.decP 103 rfl (fun _ => ?_) (fun hn => absurd (by first | omega | assumption | decide) hn)
        refine Ops.gd rfl rfl rfl (Det.lda Try.isAgg24 Try.sizeOf24 (lk rfl) (Rds.ow (m := 6) 3 rfl rfl) rfl) rfl ?_
        refine Ops.gd rfl rfl rfl (Det.lda Try.isAgg24 Try.sizeOf24 (lk rfl) (Rds.ow (m := 6) 9 rfl rfl) rfl) rfl ?_
        refine Ops.gs rfl rfl rfl (Stp.call rfl Try.call26 (lks rfl) (fun E' le hat => same_ok E' (View.mk c.rows c.cols c.cells c.row c.col c.vis) (View.mk c.rows c.cols c.cells c.row c.col c.vis) (.slice x1 x2 x3) (.slice qa qm qc) (Sl.at (hat _ (.tail _ (.tail _ (.tail _ (.tail _ (.head _))))))) (Sl.mono hc le)) ?_) rfl
        rintro _ _ ⟨rfl, rfl⟩
        refine Ops.u (Dtu.pickT (lk rfl) (lk rfl)) rfl ?_
        refine Ops.u (Dtu.mv (lk rfl)) rfl ?_
        refine Ops.decP 108 rfl (fun _ => ?_) (fun hn => absurd (by first | omega | assumption | decide) hn)
        refine Ops.gu rfl rfl rfl (Dtu.mv (lk rfl)) rfl ?_
        refine Ops.gu rfl rfl rfl (Dtu.eql (lk rfl) (lk rfl)) rfl ?_
        refine Ops.u (Dtu.pickT (lk rfl) (lk rfl)) rfl ?_
        refine Ops.u (Dtu.mv (lk rfl)) rfl ?_
        refine Ops.decP 112 rfl (fun _ => ?_) (fun hn => absurd (by first | omega | assumption | decide) hn)
        refine Ops.gu rfl rfl rfl (Dtu.mv (lk rfl)) rfl ?_
        refine Ops.gu rfl rfl rfl (Dtu.eql (lk rfl) (lk rfl)) rfl ?_
        refine Ops.u (Dtu.pickT (lk rfl) (lk rfl)) rfl ?_
        refine Ops.u (Dtu.mv (lk rfl)) rfl ?_
        refine Ops.decP 116 rfl (fun _ => ?_) (fun hn => absurd (by first | omega | assumption | decide) hn)
        refine Ops.gd rfl rfl rfl (Det.lda Try.isAgg24 Try.sizeOf24 (lk rfl) (Rds.ow (m := 6) 0 rfl rfl) rfl) rfl ?_
        refine Ops.gd rfl rfl rfl (Det.lda Try.isAgg24 Try.sizeOf24 (lk rfl) (Rds.ow (m := 6) 10 rfl rfl) rfl) rfl ?_
        refine Ops.gs rfl rfl rfl (Stp.call rfl Try.call26 (lks rfl) (fun E' le hat => same_ok E' (View.mk b.rows b.cols b.cells b.row b.col b.vis) (View.mk b.rows b.cols b.cells b.row b.col b.vis) (.slice w1 w2 w3) (.slice ta tm tc) (Sl.at (hat _ (.tail _ (.head _)))) (Sl.mono hb le)) ?_) rfl
        rintro _ _ ⟨rfl, rfl⟩
        have hbb : decide (0 < (nr : Int)) = decide (5 < ((difB (View.mk a.rows a.cols a.cells a.row a.col a.vis) (View.mk b.rows b.cols b.cells b.row b.col b.vis)).length : Int)) := by
          rw [decide_eq_decide]; omega
        refine Ops.u (Dtu.pickT (lk rfl) (lk rfl)) rfl ?_
        refine Ops.u (Dtu.mv (lk rfl)) rfl ?_
        refine Ops.decP 121 rfl (fun _ => ?_) (fun hn => absurd (by first | omega | assumption | decide) hn)
        refine Ops.gu rfl rfl rfl (Dtu.mv (lk rfl)) rfl ?_
        refine Ops.gu rfl rfl rfl (Dtu.eql (lk rfl) (lk rfl)) rfl ?_
        refine Ops.u (Dtu.pickT (lk rfl) (lk rfl)) rfl ?_
        refine Ops.u (Dtu.mv (lk rfl)) rfl ?_
        refine Ops.decP 125 rfl (fun _ => ?_) (fun hn => absurd (by first | omega | assumption | decide) hn)
        refine Ops.gu rfl rfl rfl (Dtu.mv (lk rfl)) rfl ?_
        refine Ops.gu rfl rfl rfl (Dtu.gtr (lk rfl) (lk rfl)) rfl ?_
        refine Ops.gu rfl rfl rfl (Dtu.mv (lk rfl)) rfl ?_
        refine Ops.gu rfl rfl rfl (Dtu.lenS Try.underlying32 (Sl.osl 8 rfl) (lk rfl)) rfl ?_
        refine Ops.gu rfl rfl rfl (Dtu.gtr (lk rfl) (lk rfl)) rfl ?_
        refine Ops.gu rfl rfl rfl (Dtu.eqB Try.underlying4 (lk rfl) (lk rfl)) rfl ?_
        refine Ops.u (Dtu.pickT (lk rfl) (lk rfl)) rfl ?_
        refine Ops.u (Dtu.mv (lk rfl)) rfl ?_
        refine Ops.decP 133 rfl (fun _ => ?_) (fun hn => absurd (by first | omega | assumption | decide) hn)
        refine Ops.gd rfl rfl rfl (Det.lda Try.isAgg24 Try.sizeOf24 (lk rfl) (Rds.ow (m := 6) 11 rfl rfl) rfl) rfl ?_
        refine Ops.gd rfl rfl rfl (Det.lda Try.isAgg24 Try.sizeOf24 (lk rfl) (Rds.ow (m := 6) 10 rfl rfl) rfl) rfl ?_
        refine Ops.gs rfl rfl rfl (Stp.call rfl Try.call26 (lks rfl) (fun E' le hat => same_ok E' ⟨_, _, _, _, _, _⟩ ⟨_, _, _, _, _, _⟩ _ _ (Sl.mono (by assumption) le) (Sl.mono (by assumption) le)) ?_) rfl
        rintro _ _ ⟨rfl, rfl⟩
        refine Ops.gu rfl rfl rfl (Dtu.notP (lk rfl)) rfl ?_
        refine Ops.gu rfl rfl rfl (Dtu.mv (lk rfl)) rfl ?_
        refine Ops.decP 138 rfl (fun c138 => ?_) (fun c138 => ?_)
        · refine Ops.gn rfl rfl rfl rfl rfl ?_
          refine Ops.gn rfl rfl rfl rfl rfl ?_
          refine Ops.gn rfl rfl rfl rfl rfl ?_
          refine Ops.gu rfl rfl rfl (Dtu.pickT (lk rfl) (lk rfl)) rfl ?_
          refine Ops.u (Dtu.pickT (lk rfl) (lk rfl)) rfl ?_
          refine Ops.u (Dtu.asg (lk rfl)) rfl ?_
          refine Ops.nil ?_
          refine Then.next ?_
          refine Body.ret ?_
          exact ⟨.inr rfl, _, pk [] rfl, rfl, rfl⟩
        · have hl5 : (difB (View.mk a.rows a.cols a.cells a.row a.col a.vis) (View.mk b.rows b.cols b.cells b.row b.col b.vis)).length = 5 := by
            have := hself (Decidable.of_not_not c138)
            omega
          refine Ops.gu rfl rfl rfl (Dtu.mv (lk rfl)) rfl ?_
          refine Ops.gu rfl rfl rfl (Dtu.lenS Try.underlying32 (Sl.osl 8 rfl) (lk rfl)) rfl ?_
          refine Ops.gu rfl rfl rfl (Dtu.eql (lk rfl) (lk rfl)) rfl ?_
          refine Ops.gu rfl rfl rfl (Dtu.pickF (lk rfl) (lk rfl)) rfl ?_
          refine Ops.u (Dtu.pickT (lk rfl) (lk rfl)) rfl ?_
          refine Ops.u (Dtu.asg (lk rfl)) rfl ?_
          refine Ops.nil ?_
          refine Then.next ?_
          refine Body.ret ?_
          exact ⟨.inr rfl, _, pk [] rfl, congrArg Value.bool (decide_eq_true (by omega)), rfl⟩
end Go.Proofs.Ytijjjdljdjnbaaa
