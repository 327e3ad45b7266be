/- Qh: RefM, RefN. -/
import Derived.Test.YtijjjdljdjnbaaaRaa
import Derived.Test.YtijjjdljdjnbaaaRab
import Derived.Test.YtijjjdljdjnbaaaRac
import Derived.Test.YtijjjdljdjnbaaaRad
import Derived.Test.YtijjjdljdjnbaaaRae
import Derived.Test.YtijjjdljdjnbaaaRaf
import Derived.Test.YtijjjdljdjnbaaaRag
section
/- The document's patches: the cells that one begins with. -/
namespace Go.Proofs.Ytijjjdljdjnbaaa
set_option maxRecDepth 100000
set_option linter.unusedVariables false
set_option linter.unusedSimpArgs false
open Go.Sx

set_option maxHeartbeats 1600000 in
theorem rnew17_ok (E : Env) (r c : Int) (hr : 1 ≤ r ∧ r ≤ 12 ∧ 1 ≤ c ∧ c ≤ 40) : Does Try.prog 104 #[.int .i64 r, .int .i64 c] E [] fun v H' => ∃ (z1 : Option Addr) (z2 z3 : Nat), v = .tuple #[.agg #[.int .i64 r, .int .i64 c, .slice z1 z2 z3], .int .i64 0] ∧ H' = [osl 65 11 (.slice z1 z2 z3) (r * c).toNat ((List.replicate (r * c).toNat blankC).flatMap Cell.renc)] := by
  have hm := mul_bound hr
  obtain ⟨q, hq⟩ := Int.eq_ofNat_of_zero_le (show 0 ≤ r * c by omega)
  have hw : IntKind.i64.wrap (r * c) = (q : Int) := by rw [w64 (by omega) (by omega), hq]
  rw [hq, Int.toNat_natCast]
  refine Does.go (args := [.int .i64 r, .int .i64 c]) _ _ Try.func104 rfl Try.ntmps104 rfl rfl ?_
  refine Body.seq ?_
  refine Body.region ?_
  refine Ops.s (Stp.alloc ty28 (fun b4 => ?_)) rfl
  refine Ops.u (Dtu.asg (lk rfl)) rfl ?_
  refine Ops.nil ?_
  refine Then.next ?_
  refine Body.seq ?_
  refine Body.seq ?_
  refine Body.region ?_
  refine Ops.u (Dtu.mv (lk rfl)) rfl ?_
  refine Ops.u (Dtu.lss (lk rfl) (lk rfl)) rfl ?_
  refine Ops.u (Dtu.mv (lk rfl)) rfl ?_
  refine Ops.decP 10 rfl (fun hy => absurd hy (by first | omega | assumption | decide)) (fun _ => ?_)
  refine Ops.gu rfl rfl rfl (Dtu.mv (lk rfl)) rfl ?_
  refine Ops.gu rfl rfl rfl (Dtu.gtr (lk rfl) (lk rfl)) rfl ?_
  refine Ops.u (Dtu.pickF (lk rfl) (lk rfl)) rfl ?_
  refine Ops.u (Dtu.mv (lk rfl)) rfl ?_
  refine Ops.decP 14 rfl (fun hy => absurd hy (by first | omega | assumption | decide)) (fun _ => ?_)
  refine Ops.gu rfl rfl rfl (Dtu.mv (lk rfl)) rfl ?_
  refine Ops.gu rfl rfl rfl (Dtu.lss (lk rfl) (lk rfl)) rfl ?_
  refine Ops.u (Dtu.pickF (lk rfl) (lk rfl)) rfl ?_
  refine Ops.u (Dtu.mv (lk rfl)) rfl ?_
  refine Ops.decP 18 rfl (fun hy => absurd hy (by first | omega | assumption | decide)) (fun _ => ?_)
  refine Ops.gu rfl rfl rfl (Dtu.mv (lk rfl)) rfl ?_
  refine Ops.gu rfl rfl rfl (Dtu.gtr (lk rfl) (lk rfl)) rfl ?_
  refine Ops.u (Dtu.pickF (lk rfl) (lk rfl)) rfl ?_
  refine Ops.nil ?_
  refine Then.next ?_
  refine Body.condP (lk rfl) (fun hy => absurd hy (by first | omega | assumption | decide)) (fun _ => ?_)
  refine Body.skip ?_
  refine Then.next ?_
  refine Body.seq ?_
  refine Body.region ?_
  refine Ops.u (Dtu.mv (lk rfl)) rfl ?_
  refine Ops.u (Dtu.mv (lk rfl)) rfl ?_
  refine Ops.u (Dtu.build ty28 pl28 (lkp rfl) rfl rfl) rfl ?_
  refine Ops.s (Stp.alloc ty28 (fun b6 => ?_)) rfl
  refine Ops.e (Stp.store 0 Try.sizeOf28 (lk rfl) (lk rfl) rfl rfl rfl rfl rfl rfl rfl ?_)
  refine Ops.nil ?_
  refine Then.next ?_
  refine Body.seq ?_
  refine Body.seq ?_
  refine Body.region ?_
  refine Ops.u (Dtu.asg (lk rfl)) rfl ?_
  refine Ops.nil ?_
  refine Then.next ?_
  refine Body.block ?_
  refine Body.conseq (H' := [osl 65 11 (.slice none 0 0) 0 [], own b6 [.int .i64 r, .int .i64 c, .slice none 0 0] 28, own b4 [.int .i64 0, .int .i64 0, .slice none 0 0] 28]) (fun w s => osl_nil s) ?_
  refine Body.loopF (γ := Nat × Value) rfl (fun g => [(7, .int .i64 g.1)]) (fun g => [osl 65 11 g.2 g.1 ((List.replicate g.1 blankC).flatMap Cell.renc), own b6 [.int .i64 r, .int .i64 c, g.2] 28, own b4 [.int .i64 0, .int .i64 0, .slice none 0 0] 28]) (fun g => g.1 ≤ q) (fun g => q - g.1) (0, .slice none 0 0) (by simp) ⟨rfl, trivial⟩ rfl ?_
  rintro ⟨i, O⟩ u hi
  dsimp only at hi ⊢
  refine Body.pure (Sl.isSl (Sl.osl 0 rfl)) fun hO => ?_
  obtain ⟨z1, z2, z3, rfl⟩ := hO
  refine Body.seq ?_
  refine Body.seq ?_
  refine Body.region ?_
  refine Ops.u (Dtu.mv (lk rfl)) rfl ?_
  refine Ops.u (Dtu.mv (lk rfl)) rfl ?_
  refine Ops.u (Dtu.mv (lk rfl)) rfl ?_
  refine Ops.u (Dtu.mul (lk rfl) (lk rfl) (by with_reducible assumption)) rfl ?_
  refine Ops.u (Dtu.lss (lk rfl) (lk rfl)) rfl ?_
  refine Ops.nil ?_
  refine Then.next ?_
  refine Body.condP (lk rfl) (fun c30 => ?_) (fun c30 => ?_)
  · refine Body.skip ?_
    refine Then.next ?_
    refine Body.seq ?_
    refine Body.block ?_
    refine Body.region ?_
    refine Ops.u (Dtu.fld fa28_2 (lk rfl)) rfl ?_
    refine Ops.d (Det.ld Try.isAgg26 (lk rfl) (Rd.ow 1 rfl rfl)) rfl ?_
    refine Ops.u (Dtu.build ty65 pl65 (lkp rfl) rfl rfl) rfl ?_
    refine Ops.s (Stp.buildSliceO Try.underlying26 ty65 (by decide) (by decide) (lkp rfl) rfl rfl rfl (by decide) (fun v36 => ?_)) rfl
    refine Ops.s (Stp.append 1 Try.underlying26 ty65 rfl rfl (lk rfl) (lk rfl) (Sl.osl 0 rfl) (by first | rfl | exact all_map (fun _ => rfl) _ | exact all_flat (fun _ => rfl) _) (by omega) (by omega) (fun v37 => ?_)) rfl
    refine Ops.u (Dtu.fld fa28_2 (lk rfl)) rfl ?_
    refine Ops.pure (Sl.isSl (Sl.osl 1 rfl)) fun h37 => ?_
    obtain ⟨y1, y2, y3, rfl⟩ := h37
    refine Ops.e (Stp.store 2 Try.sizeOf26 (lk rfl) (lk rfl) rfl rfl rfl rfl rfl rfl rfl ?_)
    refine Ops.nil ?_
    refine Blk.norm ?_
    refine Then.next ?_
    refine Body.region ?_
    refine Ops.u (Dtu.mv (lk rfl)) rfl ?_
    refine Ops.u (Dtu.add (lk rfl) (lk rfl) (w64 (by omega) (by omega))) rfl ?_
    refine Ops.u (Dtu.asg (lk rfl)) rfl ?_
    refine Ops.nil ?_
    refine Round.goK [1, 1, 1] (i + 1, .slice y1 y2 y3) rfl rfl rfl ⟨int_eq (by simp), trivial⟩ rfl ?_ (by dsimp only; omega) (by dsimp only; omega)
    simp [List.replicate_succ', List.flatMap_append, Cell.renc, rsty, blankC, bit8]
  · obtain rfl : i = q := by omega
    refine Body.exit ?_
    refine Then.exit ?_
    refine Round.exit ?_
    refine Blk.here ?_
    refine Then.next ?_
    refine Body.seq ?_
    refine Body.region ?_
    refine Ops.d (Det.lda Try.isAgg28 Try.sizeOf28 (lk rfl) (Rds.ow (m := 3) 1 rfl rfl) rfl) rfl ?_
    refine Ops.e (Stp.store 2 Try.sizeOf28 (lk rfl) (lk rfl) rfl rfl rfl rfl rfl rfl rfl ?_)
    refine Ops.u (Dtu.asg (lk rfl)) rfl ?_
    refine Ops.nil ?_
    refine Then.next ?_
    refine Body.ret ?_
    exact ⟨.inr rfl, _, Loads.agg Try.isAgg28 Try.sizeOf28 (Rds.ow (m := 3) 2 rfl rfl) rfl, _, pk [0] rfl, z1, z2, z3, rfl, rfl⟩
theorem rbase_same (E : Env) (a : View) (p : Option Addr) (m k : Nat) (r c : Int) (h : a.rows = r ∧ a.cols = c) : Does Try.prog 62 #[a.val (.slice p m k), .int .i64 r, .int .i64 c] E [] fun v H' => v = .slice p m k ∧ H' = [] := by
  obtain ⟨e1, e2⟩ := h
  refine Does.go (args := [a.val (.slice p m k), .int .i64 r, .int .i64 c]) _ _ Try.func62 rfl Try.ntmps62 rfl rfl ?_
  refine Body.seq ?_
  refine Body.region ?_
  refine Ops.s (Stp.box (lk rfl) rfl (fun b3 => ?_)) rfl
  refine Ops.u (Dtu.asg (lk rfl)) rfl ?_
  refine Ops.nil ?_
  refine Then.next ?_
  refine Body.seq ?_
  refine Body.seq ?_
  refine Body.region ?_
  refine Ops.u (Dtu.fld fa30_0 (lk rfl)) rfl ?_
  refine Ops.u (Dtu.fld fa28_0 (lk rfl)) rfl ?_
  refine Ops.d (Det.ld Try.isAgg3 (lk rfl) (Rd.ow 0 rfl rfl)) rfl ?_
  refine Ops.u (Dtu.mv (lk rfl)) rfl ?_
  refine Ops.u (Dtu.eql (lk rfl) (lk rfl)) rfl ?_
  refine Ops.u (Dtu.mv (lk rfl)) rfl ?_
  refine Ops.decP 14 rfl (fun _ => ?_) (fun hn => absurd (by first | omega | assumption | decide) hn)
  refine Ops.gu rfl rfl rfl (Dtu.fld fa30_0 (lk rfl)) rfl ?_
  refine Ops.gu rfl rfl rfl (Dtu.fld fa28_1 (lk rfl)) rfl ?_
  refine Ops.gd rfl rfl rfl (Det.ld Try.isAgg3 (lk rfl) (Rd.ow 0 rfl rfl)) rfl ?_
  refine Ops.gu rfl rfl rfl (Dtu.mv (lk rfl)) rfl ?_
  refine Ops.gu rfl rfl rfl (Dtu.eql (lk rfl) (lk rfl)) rfl ?_
  refine Ops.u (Dtu.pickT (lk rfl) (lk rfl)) rfl ?_
  refine Ops.nil ?_
  refine Then.next ?_
  refine Body.condP (lk rfl) (fun _ => ?_) (fun hn => absurd (by first | omega | assumption | decide) hn)
  refine Body.seq ?_
  refine Body.region ?_
  refine Ops.u (Dtu.fld fa30_0 (lk rfl)) rfl ?_
  refine Ops.u (Dtu.fld fa28_2 (lk rfl)) rfl ?_
  refine Ops.d (Det.ld Try.isAgg26 (lk rfl) (Rd.ow 0 rfl rfl)) rfl ?_
  refine Ops.u (Dtu.asg (lk rfl)) rfl ?_
  refine Ops.nil ?_
  refine Then.next ?_
  refine Body.ret ?_
  refine Then.ret ?_
  exact ⟨.inr rfl, _, pk [] rfl, rfl, rfl⟩
theorem rbase_new (E : Env) (a : View) (p : Option Addr) (m k : Nat) (r c : Int) (h : ¬ (a.rows = r ∧ a.cols = c)) (hr : 1 ≤ r ∧ r ≤ 12 ∧ 1 ≤ c ∧ c ≤ 40) : Does Try.prog 62 #[a.val (.slice p m k), .int .i64 r, .int .i64 c] E [] fun v H' => ∃ (z1 : Option Addr) (z2 z3 : Nat), v = .slice z1 z2 z3 ∧ H' = [osl 65 11 (.slice z1 z2 z3) (baseC a r c).length ((baseC a r c).flatMap Cell.renc)] := by
  have hb : baseC a r c = List.replicate (r * c).toNat blankC := by unfold baseC; rw [if_neg h]
  rw [hb, List.length_replicate]
  refine Does.go (args := [a.val (.slice p m k), .int .i64 r, .int .i64 c]) _ _ Try.func62 rfl Try.ntmps62 rfl rfl ?_
  refine Body.seq ?_
  refine Body.region ?_
  refine Ops.s (Stp.box (lk rfl) rfl (fun b3 => ?_)) rfl
  refine Ops.u (Dtu.asg (lk rfl)) rfl ?_
  refine Ops.nil ?_
  refine Then.next ?_
  refine Body.seq ?_
  refine Body.seq ?_
  refine Body.region ?_
  refine Ops.u (Dtu.fld fa30_0 (lk rfl)) rfl ?_
  refine Ops.u (Dtu.fld fa28_0 (lk rfl)) rfl ?_
  refine Ops.d (Det.ld Try.isAgg3 (lk rfl) (Rd.ow 0 rfl rfl)) rfl ?_
  refine Ops.u (Dtu.mv (lk rfl)) rfl ?_
  refine Ops.u (Dtu.eql (lk rfl) (lk rfl)) rfl ?_
  refine Ops.u (Dtu.mv (lk rfl)) rfl ?_
  refine Ops.decP 14 rfl (fun c14 => ?_) (fun c14 => ?_)
  · refine Ops.gu rfl rfl rfl (Dtu.fld fa30_0 (lk rfl)) rfl ?_
    refine Ops.gu rfl rfl rfl (Dtu.fld fa28_1 (lk rfl)) rfl ?_
    refine Ops.gd rfl rfl rfl (Det.ld Try.isAgg3 (lk rfl) (Rd.ow 0 rfl rfl)) rfl ?_
    refine Ops.gu rfl rfl rfl (Dtu.mv (lk rfl)) rfl ?_
    refine Ops.gu rfl rfl rfl (Dtu.eql (lk rfl) (lk rfl)) rfl ?_
    refine Ops.u (Dtu.pickT (lk rfl) (lk rfl)) rfl ?_
    refine Ops.nil ?_
    refine Then.next ?_
    refine Body.condP (lk rfl) (fun hy => absurd hy (by first | omega | assumption | decide)) (fun _ => ?_)
    refine Body.skip ?_
    refine Then.next ?_
    refine Body.seq ?_
    refine Body.region ?_
    refine Ops.u (Dtu.mv (lk rfl)) rfl ?_
    refine Ops.u (Dtu.mv (lk rfl)) rfl ?_
    refine Ops.s (Stp.call rfl Try.call104 (lks rfl) (fun E' le hat => rnew17_ok E' _ _ (by omega)) ?_) rfl
    rintro _ _ ⟨na27, nm27, nc27, rfl, rfl⟩
    refine Ops.u (Dtu.mv (lk rfl)) rfl ?_
    refine Ops.u (Dtu.ext (lk rfl) rfl) rfl ?_
    refine Ops.u (Dtu.ext (lk rfl) rfl) rfl ?_
    refine Ops.s (Stp.alloc ty28 (fun b7 => ?_)) rfl
    refine Ops.e (Stp.store 0 Try.sizeOf28 (lk rfl) (lk rfl) rfl rfl rfl rfl rfl rfl rfl ?_)
    refine Ops.u (Dtu.asg (lk rfl)) rfl ?_
    refine Ops.nil ?_
    refine Then.next ?_
    refine Body.seq ?_
    refine Body.region ?_
    refine Ops.u (Dtu.fld fa28_2 (lk rfl)) rfl ?_
    refine Ops.d (Det.ld Try.isAgg26 (lk rfl) (Rd.ow 0 rfl rfl)) rfl ?_
    refine Ops.u (Dtu.asg (lk rfl)) rfl ?_
    refine Ops.nil ?_
    refine Then.next ?_
    refine Body.ret ?_
    (exact ⟨.inr rfl, _, pk [1] rfl, na27, nm27, nc27, rfl, rfl⟩)
  · refine Ops.gn rfl rfl rfl rfl rfl ?_
    refine Ops.gn rfl rfl rfl rfl rfl ?_
    refine Ops.gn rfl rfl rfl rfl rfl ?_
    refine Ops.gn rfl rfl rfl rfl rfl ?_
    refine Ops.gn rfl rfl rfl rfl rfl ?_
    refine Ops.u (Dtu.pickF (lk rfl) (lk rfl)) rfl ?_
    refine Ops.nil ?_
    refine Then.next ?_
    refine Body.condF (lk rfl) ?_
    refine Body.skip ?_
    refine Then.next ?_
    refine Body.seq ?_
    refine Body.region ?_
    refine Ops.u (Dtu.mv (lk rfl)) rfl ?_
    refine Ops.u (Dtu.mv (lk rfl)) rfl ?_
    refine Ops.s (Stp.call rfl Try.call104 (lks rfl) (fun E' le hat => rnew17_ok E' _ _ (by omega)) ?_) rfl
    rintro _ _ ⟨na27, nm27, nc27, rfl, rfl⟩
    refine Ops.u (Dtu.mv (lk rfl)) rfl ?_
    refine Ops.u (Dtu.ext (lk rfl) rfl) rfl ?_
    refine Ops.u (Dtu.ext (lk rfl) rfl) rfl ?_
    refine Ops.s (Stp.alloc ty28 (fun b7 => ?_)) rfl
    refine Ops.e (Stp.store 0 Try.sizeOf28 (lk rfl) (lk rfl) rfl rfl rfl rfl rfl rfl rfl ?_)
    refine Ops.u (Dtu.asg (lk rfl)) rfl ?_
    refine Ops.nil ?_
    refine Then.next ?_
    refine Body.seq ?_
    refine Body.region ?_
    refine Ops.u (Dtu.fld fa28_2 (lk rfl)) rfl ?_
    refine Ops.d (Det.ld Try.isAgg26 (lk rfl) (Rd.ow 0 rfl rfl)) rfl ?_
    refine Ops.u (Dtu.asg (lk rfl)) rfl ?_
    refine Ops.nil ?_
    refine Then.next ?_
    refine Body.ret ?_
    (exact ⟨.inr rfl, _, pk [1] rfl, na27, nm27, nc27, rfl, rfl⟩)
end Go.Proofs.Ytijjjdljdjnbaaa
end
section
/- The document's patches: Diff. -/
namespace Go.Proofs.Ytijjjdljdjnbaaa
set_option maxRecDepth 100000
set_option linter.unusedVariables false
set_option linter.unusedSimpArgs false
open Go.Sx

set_option maxHeartbeats 6400000 in
theorem rdiff_ok (E : Env) (a b : View) (s t : Value) (ha : a.rhas E [] s) (hb : b.rhas E [] t) (ka : a.ok = true) (kb : b.ok = true) (la : ∀ c ∈ a.cells, c.Fl) (lb : ∀ c ∈ b.cells, c.Fl) : Does Try.prog 19 #[a.val s, b.val t] E [] fun r H' => ∃ s', s' = r ∧ H' = [osl 5 1 s' (difB a b).length ((difB a b).map (.int .u8))] := by
  unfold View.rhas at ha hb
  obtain ⟨fb, ob⟩ := View.ok_fits kb
  have hfit := fb
  obtain ⟨hrc, f1, f2, f3, f4, f5⟩ := fb
  have hmb := mul_bound hrc
  refine Does.pure ha.isSl fun hs => ?_
  obtain ⟨sa, sm, sc, rfl⟩ := hs
  refine Does.pure hb.isSl fun hs => ?_
  obtain ⟨ta, tm, tc, rfl⟩ := hs
  have hbl := baseC_full ka kb
  have hwf := baseC_fl la b.rows b.cols
  have hD : difB a b = b.head ++ (difR 0 [] ((baseC a b.rows b.cols).zip b.cells)).flatMap encR := rfl
  have hb0 : b.head.length = 5 := rfl
  have hP : ((baseC a b.rows b.cols).zip b.cells).length = b.cells.length := by simp [hbl]
  have hPi : ∀ i, i < b.cells.length → ((baseC a b.rows b.cols).zip b.cells)[i]!.1 = (baseC a b.rows b.cols)[i]! ∧ ((baseC a b.rows b.cols).zip b.cells)[i]!.2 = b.cells[i]! := fun i hi => zip_at hbl hi
  have hbn := fun (E' : Env) (h : ¬ (a.rows = b.rows ∧ a.cols = b.cols)) => rbase_new E' a sa sm sc b.rows b.cols h hrc
  have hsame : a.rows = b.rows ∧ a.cols = b.cols → baseC a b.rows b.cols = a.cells := fun h => by unfold baseC; rw [if_pos h]
  generalize difB a b = D at *
  generalize (baseC a b.rows b.cols).zip b.cells = P at *
  refine Does.go (args := [a.val _, b.val _]) _ _ Try.func19 rfl Try.ntmps19 rfl rfl ?_
  by_cases he : a.rows = b.rows ∧ a.cols = b.cols
  · rw [← hsame he] at ha
    refine Body.seq ?_
    refine Body.region ?_
    refine Ops.s (Stp.box (lk rfl) rfl (fun b2 => ?_)) rfl
    refine Ops.s (Stp.box (lk rfl) rfl (fun b3 => ?_)) rfl
    refine Ops.u (Dtu.asg (lk rfl)) rfl ?_
    refine Ops.nil ?_
    refine Then.next ?_
    refine Body.seq ?_
    refine Body.region ?_
    refine Ops.d (Det.lda Try.isAgg30 Try.sizeOf30 (lk rfl) (Rds.ow (m := 6) 0 rfl rfl) rfl) rfl ?_
    refine Ops.s (Stp.call rfl Try.call61 (lks rfl) (fun E' le hat => rhead_ok E' ⟨_, _, _, _, _, _⟩ _ _ _ (by assumption)) ?_) rfl
    rintro _ _ ⟨s12, rfl, rfl⟩
    refine Ops.u (Dtu.asg (lk rfl)) rfl ?_
    refine Ops.nil ?_
    refine Then.next ?_
    refine Body.seq ?_
    refine Body.region ?_
    refine Ops.d (Det.lda Try.isAgg30 Try.sizeOf30 (lk rfl) (Rds.ow (m := 6) 2 rfl rfl) rfl) rfl ?_
    refine Ops.u (Dtu.fld fa30_0 (lk rfl)) rfl ?_
    refine Ops.u (Dtu.fld fa28_0 (lk rfl)) rfl ?_
    refine Ops.d (Det.ld Try.isAgg3 (lk rfl) (Rd.ow 1 rfl rfl)) rfl ?_
    refine Ops.u (Dtu.fld fa30_0 (lk rfl)) rfl ?_
    refine Ops.u (Dtu.fld fa28_1 (lk rfl)) rfl ?_
    refine Ops.d (Det.ld Try.isAgg3 (lk rfl) (Rd.ow 1 rfl rfl)) rfl ?_
    refine Ops.s (Stp.call rfl Try.call62 (lks rfl) (fun E' le hat => rbase_same E' a sa sm sc b.rows b.cols he) ?_) rfl
    rintro _ _ ⟨rfl, rfl⟩
    refine Ops.u (Dtu.asg (lk rfl)) rfl ?_
    refine Ops.nil ?_
    refine Then.next ?_
    refine Body.seq ?_
    refine Body.region ?_
    refine Ops.u (Dtu.asg (lk rfl)) rfl ?_
    refine Ops.nil ?_
    refine Then.next ?_
    refine Body.seq ?_
    refine Body.region ?_
    refine Ops.u (Dtu.asg (lk rfl)) rfl ?_
    refine Ops.u (Dtu.asg (lk rfl)) rfl ?_
    refine Ops.nil ?_
    refine Then.next ?_
    refine Body.seq ?_
    refine Body.seq ?_
    refine Body.region ?_
    refine Ops.u (Dtu.asg (lk rfl)) rfl ?_
    refine Ops.nil ?_
    refine Then.next ?_
    refine Body.block ?_
    refine Body.conseq (H' := [osl 5 1 (.slice none 0 0) 0 [], osl 5 1 s12 5 (b.head.map (.int .u8)), own b3 [.int .i64 b.rows, .int .i64 b.cols, .slice ta tm tc, .int .i64 b.row, .int .i64 b.col, .bool b.vis] 30, own b2 [.int .i64 a.rows, .int .i64 a.cols, .slice sa sm sc, .int .i64 a.row, .int .i64 a.col, .bool a.vis] 30]) (fun w s => osl_nil s) ?_
    refine Body.loopF (γ := Nat × Nat × Nat × Value × Value × List Int × Unit × List Cell) rfl (fun g => [(10, .int .i64 g.1), (8, .int .i64 g.2.1), (9, .int .i64 g.2.2.1), (5, g.2.2.2.1), (7, g.2.2.2.2.1)])
      (fun g => [osl 5 1 g.2.2.2.2.1 (g.2.2.2.2.2.2.2.flatMap Cell.bytes).length ((g.2.2.2.2.2.2.2.flatMap Cell.bytes).map (.int .u8)), osl 5 1 g.2.2.2.1 g.2.2.2.2.2.1.length (g.2.2.2.2.2.1.map (.int .u8)), own b3 [.int .i64 b.rows, .int .i64 b.cols, .slice ta tm tc, .int .i64 b.row, .int .i64 b.col, .bool b.vis] 30, own b2 [.int .i64 a.rows, .int .i64 a.cols, .slice sa sm sc, .int .i64 a.row, .int .i64 a.col, .bool a.vis] 30])
      (fun g => g.1 ≤ b.cells.length + 1 ∧ g.2.1 = g.2.2.2.2.2.2.2.length ∧ g.2.2.1 ≤ g.1 ∧ g.2.2.2.2.2.1 ++ (difR g.2.2.1 g.2.2.2.2.2.2.2 (P.drop g.1)).flatMap encR = D ∧ g.2.2.2.2.2.1.length + 25 * g.2.1 ≤ 5 + 41 * g.1 ∧ g.2.1 ≤ g.1 ∧ (∀ c ∈ g.2.2.2.2.2.2.2, c.ok = true) ∧ (b.cells.length < g.1 → g.2.2.2.2.2.2.2 = [])) (fun g => b.cells.length + 1 - g.1) (0, 0, 0, s12, .slice none 0 0, b.head, (), []) ⟨by simp, by simp, by simp, by simp [hD], by simp [hb0], by simp, by simp, by simp⟩ ⟨rfl, rfl, rfl, rfl, rfl, trivial⟩ rfl ?_
    rintro ⟨i, n, k, O, R, bs, _, run⟩ u ⟨hi, hn, hk, hbs, hl, hni, hrok, hend⟩
    dsimp only at hi hn hk hbs hl hni hrok hend ⊢
    have hcl := cells_len hrok
    have hmx : b.cells.length ≤ 480 := by omega
    have hz1 := sizeS_le (k : Int)
    have hz2 := sizeS_le (n : Int)
    refine Body.seq ?_
    refine Body.seq ?_
    refine Body.region ?_
    refine Ops.u (Dtu.mv (lk rfl)) rfl ?_
    refine Ops.u (Dtu.mv (lk rfl)) rfl ?_
    refine Ops.u (Dtu.lenS Try.underlying26 (Sl.up ha) (lk rfl)) rfl ?_
    refine Ops.u (Dtu.leq (lk rfl) (lk rfl)) rfl ?_
    refine Ops.nil ?_
    refine Then.next ?_
    refine Body.condP (lk rfl) (fun c24 => ?_) (fun c24 => ?_)
    · have hno : (i < b.cells.length → P[i]!.1 = P[i]!.2) → ((run = [] → bs ++ (difR (k + 1) [] (P.drop (i + 1))).flatMap encR = D) ∧ (run ≠ [] → bs ++ encR (k, run) ++ (difR 1 [] (P.drop (i + 1))).flatMap encR = D)) := fun h => ⟨fun h2 => by
          rw [h2] at hbs
          rw [← hbs]
          by_cases hlt : i < b.cells.length
          · rw [difR_eq (P := P) (i := i) (by omega) (h hlt)]
          · rw [List.drop_eq_nil_of_le (by omega), List.drop_eq_nil_of_le (by omega)]; rfl, fun h2 => by
          rw [← hbs, difR_end h2 (fun h3 => h (by omega))]
          simp⟩
      refine Body.skip ?_
      refine Then.next ?_
      refine Body.seq ?_
      refine Body.block ?_
      refine Body.seq ?_
      refine Body.seq ?_
      refine Body.draw mixed ?_
      refine AB.u 0 rfl (by decide +kernel) (Dtu.mv (lk rfl)) rfl ?_
      refine AB.u 1 rfl (by decide +kernel) (Dtu.mv (lk rfl)) rfl ?_
      refine AB.u 2 rfl (by decide +kernel) (Dtu.lenS Try.underlying26 (Sl.up ha) (lk rfl)) rfl ?_
      refine AB.u 3 rfl (by decide +kernel) (Dtu.lss (lk rfl) (lk rfl)) rfl ?_
      refine AB.u 4 rfl (by decide +kernel) (Dtu.mv (lk rfl)) rfl ?_
      refine AB.decP 31 rfl (fun c31 => ?_) (fun c31 => ?_)
      · obtain ⟨p1, p2⟩ := hPi i (by omega)
        have w1 : (baseC a b.rows b.cols)[i]!.Fl := by rw [getElem!_pos _ i (by omega)]; exact hwf _ (List.getElem_mem _)
        have w2 : b.cells[i]!.Fl := by rw [getElem!_pos _ i (by omega)]; exact lb _ (List.getElem_mem _)
        have hq := reqB_iff w1 w2
        have hcok : b.cells[i]!.ok = true := by rw [getElem!_pos _ i (by omega)]; exact ob _ (List.getElem_mem _)
        have hsz := Cell.size_13 hcok
        have hbytes := Cell.bytes_len b.cells[i]!
        obtain ⟨w3, w4⟩ := w2
        refine AB.gu 5 rfl (by decide +kernel) rfl rfl rfl (Dtu.mv (lk rfl)) rfl ?_
        refine AB.gu 6 rfl (by decide +kernel) rfl rfl rfl (Dtu.mv (lk rfl)) rfl ?_
        refine AB.gu 7 rfl (by decide +kernel) rfl rfl rfl (Dtu.ix (i := (i)) Try.underlying26 Try.sizeOf65 (Sl.up ha) (lk rfl) (lk rfl) (by omega) (by omega)) rfl ?_
        refine AB.gd 8 rfl (by decide +kernel) rfl rfl rfl rfl (Det.lda Try.isAgg65 Try.sizeOf65 (lk rfl) (Rds.sl (Sl.up ha) (gf (sz := 11) (fun _ => rfl) (by omega))) rfl) rfl ?_
        refine AB.gu 9 rfl (by decide +kernel) rfl rfl rfl (Dtu.fld fa30_0 (lk rfl)) rfl ?_
        refine AB.gu 10 rfl (by decide +kernel) rfl rfl rfl (Dtu.fld fa28_2 (lk rfl)) rfl ?_
        refine AB.gd 11 rfl (by decide +kernel) rfl rfl rfl rfl (Det.ld Try.isAgg26 (lk rfl) (Rd.ow 2 rfl rfl)) rfl ?_
        refine AB.gu 12 rfl (by decide +kernel) rfl rfl rfl (Dtu.mv (lk rfl)) rfl ?_
        refine AB.gu 13 rfl (by decide +kernel) rfl rfl rfl (Dtu.ix (i := (i)) Try.underlying26 Try.sizeOf65 (Sl.up hb) (lk rfl) (lk rfl) (by omega) (by omega)) rfl ?_
        refine AB.gd 14 rfl (by decide +kernel) rfl rfl rfl rfl (Det.lda Try.isAgg65 Try.sizeOf65 (lk rfl) (Rds.sl (Sl.up hb) (gf (sz := 11) (fun _ => rfl) (by omega))) rfl) rfl ?_
        refine AB.gu 15 rfl (by decide +kernel) rfl rfl rfl (Dtu.neS eqGuard65 (eq65 _ _) (lk rfl) (lk rfl)) rfl ?_
        refine AB.u 16 rfl (by decide +kernel) (Dtu.pickT (lk rfl) (lk rfl)) rfl ?_
        refine AB.done (by decide +kernel) ?_
        refine Then.next ?_
        refine Body.cond (lk rfl) (fun c43 => ?_) (fun c43 => ?_)
        · have hne : ¬ P[i]!.1 = P[i]!.2 := by rw [p1, p2]; exact fun e => by rw [hq.2 e] at c43; simp at c43
          refine Body.seq ?_
          refine Body.region ?_
          refine Ops.u (Dtu.mv (lk rfl)) rfl ?_
          refine Ops.u (Dtu.fld fa30_0 (lk rfl)) rfl ?_
          refine Ops.u (Dtu.fld fa28_2 (lk rfl)) rfl ?_
          refine Ops.d (Det.ld Try.isAgg26 (lk rfl) (Rd.ow 2 rfl rfl)) rfl ?_
          refine Ops.u (Dtu.mv (lk rfl)) rfl ?_
          refine Ops.u (Dtu.ix (i := (i)) Try.underlying26 Try.sizeOf65 (Sl.up hb) (lk rfl) (lk rfl) (by omega) (by omega)) rfl ?_
          refine Ops.d (Det.lda Try.isAgg65 Try.sizeOf65 (lk rfl) (Rds.sl (Sl.up hb) (gf (sz := 11) (fun _ => rfl) (by omega))) rfl) rfl ?_
          refine Ops.s (Stp.call rfl Try.call37 (lks rfl) (fun E' le hat => rputCell_ok E' ⟨_, _, _, _⟩ (by constructor <;> assumption) (by assumption)) ?_) rfl
          rintro _ _ ⟨s51, hz51, rfl, rfl⟩
          refine Ops.s (Stp.append 1 Try.underlying32 ty5 rfl rfl (lk rfl) (lk rfl) (Sl.osl 0 rfl) (by first | rfl | exact all_map (fun _ => rfl) _ | exact all_flat (fun _ => rfl) _) (by omega) (by omega) (fun v52 => ?_)) rfl
          refine Ops.u (Dtu.asg (lk rfl)) rfl ?_
          refine Ops.nil ?_
          refine Then.next ?_
          refine Body.seq ?_
          refine Body.region ?_
          refine Ops.u (Dtu.mv (lk rfl)) rfl ?_
          refine Ops.u (Dtu.add (lk rfl) (lk rfl) (w64 (by omega) (by omega))) rfl ?_
          refine Ops.u (Dtu.asg (lk rfl)) rfl ?_
          refine Ops.nil ?_
          refine Then.next ?_
          refine Body.exit ?_
          refine Then.exit ?_
          refine Blk.here ?_
          refine Then.next ?_
          refine Body.region ?_
          refine Ops.u (Dtu.mv (lk rfl)) rfl ?_
          refine Ops.u (Dtu.add (lk rfl) (lk rfl) (w64 (by omega) (by omega))) rfl ?_
          refine Ops.u (Dtu.asg (lk rfl)) rfl ?_
          refine Ops.nil ?_
          refine Round.goK [1, 1, 1, 1] (i + 1, n + 1, k, O, v52, bs, (), run ++ [b.cells[i]!]) rfl rfl rfl ⟨int_eq (by simp), int_eq (by simp), rfl, rfl, rfl, trivial⟩ rfl ?_ ⟨by dsimp only; omega, by simp [hn], by dsimp only; omega, ?_, by dsimp only; omega, by dsimp only; omega, ?_, fun h => by dsimp only at h; omega⟩ (by dsimp only; omega)
          · simp [Cell.bytes_len]
          · dsimp only
            rw [← hbs, difR_ne (P := P) (i := i) (by omega) hne, p2]
          · intro c hc
            rcases List.mem_append.1 hc with h | h
            · exact hrok c h
            · rw [List.mem_singleton.1 h]; exact hcok
        · have heq : P[i]!.1 = P[i]!.2 := by rw [p1, p2]; exact hq.1 (by simpa using c43)
          obtain ⟨hn1, hn2⟩ := hno (fun _ => heq)
          refine Body.skip ?_
          refine Then.next ?_
          refine Body.seq ?_
          refine Body.seq ?_
          refine Body.region ?_
          refine Ops.u (Dtu.mv (lk rfl)) rfl ?_
          refine Ops.u (Dtu.gtr (lk rfl) (lk rfl)) rfl ?_
          refine Ops.nil ?_
          refine Then.next ?_
          refine Body.condP (lk rfl) (fun c56 => ?_) (fun c56 => ?_)
          · have hrn : run ≠ [] := fun h => by rw [h] at hn; simp at hn; omega
            have hn2' := hn2 hrn
            refine Body.seq ?_
            refine Body.region ?_
            refine Ops.u (Dtu.mv (lk rfl)) rfl ?_
            refine Ops.u (Dtu.mv (lk rfl)) rfl ?_
            refine Ops.u (Dtu.cvt Try.underlying3 Try.underlying75 (lk rfl) (wu64 (by omega) (by omega))) rfl ?_
            refine Ops.s (Stp.call rfl Try.call63 (lks rfl) (fun E' le hat => rput_ok E' _ (by omega) (by omega)) ?_) rfl
            rintro _ _ ⟨sp60, rfl, rfl⟩
            refine Ops.s (Stp.append 2 Try.underlying32 ty5 rfl rfl (lk rfl) (lk rfl) (Sl.osl 0 rfl) (by first | rfl | exact all_map (fun _ => rfl) _ | exact all_flat (fun _ => rfl) _) (by omega) (by omega) (fun v61 => ?_)) rfl
            refine Ops.u (Dtu.asg (lk rfl)) rfl ?_
            refine Ops.nil ?_
            refine Then.next ?_
            refine Body.seq ?_
            refine Body.region ?_
            refine Ops.u (Dtu.mv (lk rfl)) rfl ?_
            refine Ops.u (Dtu.mv (lk rfl)) rfl ?_
            refine Ops.u (Dtu.cvt Try.underlying3 Try.underlying75 (lk rfl) (wu64 (by omega) (by omega))) rfl ?_
            refine Ops.s (Stp.call rfl Try.call63 (lks rfl) (fun E' le hat => rput_ok E' _ (by omega) (by omega)) ?_) rfl
            rintro _ _ ⟨sp65, rfl, rfl⟩
            refine Ops.s (Stp.append 3 Try.underlying32 ty5 rfl rfl (lk rfl) (lk rfl) (Sl.osl 0 rfl) (by first | rfl | exact all_map (fun _ => rfl) _ | exact all_flat (fun _ => rfl) _) (by omega) (by omega) (fun v66 => ?_)) rfl
            refine Ops.u (Dtu.asg (lk rfl)) rfl ?_
            refine Ops.nil ?_
            refine Then.next ?_
            refine Body.seq ?_
            refine Body.region ?_
            refine Ops.u (Dtu.mv (lk rfl)) rfl ?_
            refine Ops.u (Dtu.mv (lk rfl)) rfl ?_
            refine Ops.s (Stp.append 3 Try.underlying32 ty5 rfl rfl (lk rfl) (lk rfl) (Sl.osl 2 rfl) (by first | rfl | exact all_map (fun _ => rfl) _ | exact all_flat (fun _ => rfl) _) (by omega) (by omega) (fun v69 => ?_)) rfl
            refine Ops.u (Dtu.asg (lk rfl)) rfl ?_
            refine Ops.nil ?_
            refine Then.next ?_
            refine Body.region ?_
            refine Ops.u (Dtu.asg (lk rfl)) rfl ?_
            refine Ops.u (Dtu.asg (lk rfl)) rfl ?_
            refine Ops.u (Dtu.asg (lk rfl)) rfl ?_
            refine Ops.nil ?_
            refine Then.next ?_
            refine Body.region ?_
            refine Ops.u (Dtu.mv (lk rfl)) rfl ?_
            refine Ops.u (Dtu.add (lk rfl) (lk rfl) (w64 (by omega) (by omega))) rfl ?_
            refine Ops.u (Dtu.asg (lk rfl)) rfl ?_
            refine Ops.nil ?_
            refine Blk.norm ?_
            refine Then.next ?_
            refine Body.region ?_
            refine Ops.u (Dtu.mv (lk rfl)) rfl ?_
            refine Ops.u (Dtu.add (lk rfl) (lk rfl) (w64 (by omega) (by omega))) rfl ?_
            refine Ops.u (Dtu.asg (lk rfl)) rfl ?_
            refine Ops.nil ?_
            refine Round.goW (i + 1, 0, 1, v69, .slice none 0 0, bs ++ encR (k, run), (), []) rfl rfl rfl ⟨int_eq (by simp), rfl, rfl, rfl, rfl, trivial⟩ (fun w s => ?_) ⟨by dsimp only; omega, rfl, by dsimp only; omega, hn2', ?_, by dsimp only; omega, by simp, fun _ => rfl⟩ (by dsimp only; omega)
            · have s2 := pk [3, 3, 3] rfl w s
              have s3 := osl_nil (t := 5) (sz := 1) (a := none) s2
              have e : bs ++ encR (k, run) = bs ++ putL (k : Int) ++ putL (n : Int) ++ run.flatMap Cell.bytes := by simp [encR, hn]
              dsimp only
              rw [e]
              simpa [putL_len, Nat.add_assoc] using s3
            · dsimp only
              simp only [encR, List.length_append, putL_len, ← hn]; omega
          · have hrn : run = [] := List.length_eq_zero_iff.1 (by omega)
            refine Body.skip ?_
            refine Then.next ?_
            refine Body.region ?_
            refine Ops.u (Dtu.mv (lk rfl)) rfl ?_
            refine Ops.u (Dtu.add (lk rfl) (lk rfl) (w64 (by omega) (by omega))) rfl ?_
            refine Ops.u (Dtu.asg (lk rfl)) rfl ?_
            refine Ops.nil ?_
            refine Blk.norm ?_
            refine Then.next ?_
            refine Body.region ?_
            refine Ops.u (Dtu.mv (lk rfl)) rfl ?_
            refine Ops.u (Dtu.add (lk rfl) (lk rfl) (w64 (by omega) (by omega))) rfl ?_
            refine Ops.u (Dtu.asg (lk rfl)) rfl ?_
            refine Ops.nil ?_
            refine Round.goK [0, 0, 0, 0] (i + 1, n, k + 1, O, R, bs, (), run) rfl rfl rfl ⟨int_eq (by simp), rfl, int_eq (by simp), rfl, rfl, trivial⟩ rfl rfl ⟨by dsimp only; omega, hn, by dsimp only; omega, ?_, by dsimp only; omega, by dsimp only; omega, hrok, fun _ => hrn⟩ (by dsimp only; omega)
            dsimp only
            rw [hrn]; exact hn1 hrn
      · obtain ⟨hn1, hn2⟩ := hno (fun h => by omega)
        refine AB.gn 5 rfl (by decide +kernel) rfl rfl rfl rfl rfl ?_
        refine AB.gn 6 rfl (by decide +kernel) rfl rfl rfl rfl rfl ?_
        refine AB.gn 7 rfl (by decide +kernel) rfl rfl rfl rfl rfl ?_
        refine AB.gn 8 rfl (by decide +kernel) rfl rfl rfl rfl rfl ?_
        refine AB.gn 9 rfl (by decide +kernel) rfl rfl rfl rfl rfl ?_
        refine AB.gn 10 rfl (by decide +kernel) rfl rfl rfl rfl rfl ?_
        refine AB.gn 11 rfl (by decide +kernel) rfl rfl rfl rfl rfl ?_
        refine AB.gn 12 rfl (by decide +kernel) rfl rfl rfl rfl rfl ?_
        refine AB.gn 13 rfl (by decide +kernel) rfl rfl rfl rfl rfl ?_
        refine AB.gn 14 rfl (by decide +kernel) rfl rfl rfl rfl rfl ?_
        refine AB.gn 15 rfl (by decide +kernel) rfl rfl rfl rfl rfl ?_
        refine AB.u 16 rfl (by decide +kernel) (Dtu.pickF (lk rfl) (lk rfl)) rfl ?_
        refine AB.done (by decide +kernel) ?_
        refine Then.next ?_
        refine Body.condF (lk rfl) ?_
        refine Body.skip ?_
        refine Then.next ?_
        refine Body.seq ?_
        refine Body.seq ?_
        refine Body.region ?_
        refine Ops.u (Dtu.mv (lk rfl)) rfl ?_
        refine Ops.u (Dtu.gtr (lk rfl) (lk rfl)) rfl ?_
        refine Ops.nil ?_
        refine Then.next ?_
        refine Body.condP (lk rfl) (fun c56 => ?_) (fun c56 => ?_)
        · have hrn : run ≠ [] := fun h => by rw [h] at hn; simp at hn; omega
          have hn2' := hn2 hrn
          refine Body.seq ?_
          refine Body.region ?_
          refine Ops.u (Dtu.mv (lk rfl)) rfl ?_
          refine Ops.u (Dtu.mv (lk rfl)) rfl ?_
          refine Ops.u (Dtu.cvt Try.underlying3 Try.underlying75 (lk rfl) (wu64 (by omega) (by omega))) rfl ?_
          refine Ops.s (Stp.call rfl Try.call63 (lks rfl) (fun E' le hat => rput_ok E' _ (by omega) (by omega)) ?_) rfl
          rintro _ _ ⟨sp60, rfl, rfl⟩
          refine Ops.s (Stp.append 2 Try.underlying32 ty5 rfl rfl (lk rfl) (lk rfl) (Sl.osl 0 rfl) (by first | rfl | exact all_map (fun _ => rfl) _ | exact all_flat (fun _ => rfl) _) (by omega) (by omega) (fun v61 => ?_)) rfl
          refine Ops.u (Dtu.asg (lk rfl)) rfl ?_
          refine Ops.nil ?_
          refine Then.next ?_
          refine Body.seq ?_
          refine Body.region ?_
          refine Ops.u (Dtu.mv (lk rfl)) rfl ?_
          refine Ops.u (Dtu.mv (lk rfl)) rfl ?_
          refine Ops.u (Dtu.cvt Try.underlying3 Try.underlying75 (lk rfl) (wu64 (by omega) (by omega))) rfl ?_
          refine Ops.s (Stp.call rfl Try.call63 (lks rfl) (fun E' le hat => rput_ok E' _ (by omega) (by omega)) ?_) rfl
          rintro _ _ ⟨sp65, rfl, rfl⟩
          refine Ops.s (Stp.append 3 Try.underlying32 ty5 rfl rfl (lk rfl) (lk rfl) (Sl.osl 0 rfl) (by first | rfl | exact all_map (fun _ => rfl) _ | exact all_flat (fun _ => rfl) _) (by omega) (by omega) (fun v66 => ?_)) rfl
          refine Ops.u (Dtu.asg (lk rfl)) rfl ?_
          refine Ops.nil ?_
          refine Then.next ?_
          refine Body.seq ?_
          refine Body.region ?_
          refine Ops.u (Dtu.mv (lk rfl)) rfl ?_
          refine Ops.u (Dtu.mv (lk rfl)) rfl ?_
          refine Ops.s (Stp.append 3 Try.underlying32 ty5 rfl rfl (lk rfl) (lk rfl) (Sl.osl 2 rfl) (by first | rfl | exact all_map (fun _ => rfl) _ | exact all_flat (fun _ => rfl) _) (by omega) (by omega) (fun v69 => ?_)) rfl
          refine Ops.u (Dtu.asg (lk rfl)) rfl ?_
          refine Ops.nil ?_
          refine Then.next ?_
          refine Body.region ?_
          refine Ops.u (Dtu.asg (lk rfl)) rfl ?_
          refine Ops.u (Dtu.asg (lk rfl)) rfl ?_
          refine Ops.u (Dtu.asg (lk rfl)) rfl ?_
          refine Ops.nil ?_
          refine Then.next ?_
          refine Body.region ?_
          refine Ops.u (Dtu.mv (lk rfl)) rfl ?_
          refine Ops.u (Dtu.add (lk rfl) (lk rfl) (w64 (by omega) (by omega))) rfl ?_
          refine Ops.u (Dtu.asg (lk rfl)) rfl ?_
          refine Ops.nil ?_
          refine Blk.norm ?_
          refine Then.next ?_
          refine Body.region ?_
          refine Ops.u (Dtu.mv (lk rfl)) rfl ?_
          refine Ops.u (Dtu.add (lk rfl) (lk rfl) (w64 (by omega) (by omega))) rfl ?_
          refine Ops.u (Dtu.asg (lk rfl)) rfl ?_
          refine Ops.nil ?_
          refine Round.goW (i + 1, 0, 1, v69, .slice none 0 0, bs ++ encR (k, run), (), []) rfl rfl rfl ⟨int_eq (by simp), rfl, rfl, rfl, rfl, trivial⟩ (fun w s => ?_) ⟨by dsimp only; omega, rfl, by dsimp only; omega, hn2', ?_, by dsimp only; omega, by simp, fun _ => rfl⟩ (by dsimp only; omega)
          · have s2 := pk [3, 3, 3] rfl w s
            have s3 := osl_nil (t := 5) (sz := 1) (a := none) s2
            have e : bs ++ encR (k, run) = bs ++ putL (k : Int) ++ putL (n : Int) ++ run.flatMap Cell.bytes := by simp [encR, hn]
            dsimp only
            rw [e]
            simpa [putL_len, Nat.add_assoc] using s3
          · dsimp only
            simp only [encR, List.length_append, putL_len, ← hn]; omega
        · have hrn : run = [] := List.length_eq_zero_iff.1 (by omega)
          refine Body.skip ?_
          refine Then.next ?_
          refine Body.region ?_
          refine Ops.u (Dtu.mv (lk rfl)) rfl ?_
          refine Ops.u (Dtu.add (lk rfl) (lk rfl) (w64 (by omega) (by omega))) rfl ?_
          refine Ops.u (Dtu.asg (lk rfl)) rfl ?_
          refine Ops.nil ?_
          refine Blk.norm ?_
          refine Then.next ?_
          refine Body.region ?_
          refine Ops.u (Dtu.mv (lk rfl)) rfl ?_
          refine Ops.u (Dtu.add (lk rfl) (lk rfl) (w64 (by omega) (by omega))) rfl ?_
          refine Ops.u (Dtu.asg (lk rfl)) rfl ?_
          refine Ops.nil ?_
          refine Round.goK [0, 0, 0, 0] (i + 1, n, k + 1, O, R, bs, (), run) rfl rfl rfl ⟨int_eq (by simp), rfl, int_eq (by simp), rfl, rfl, trivial⟩ rfl rfl ⟨by dsimp only; omega, hn, by dsimp only; omega, ?_, by dsimp only; omega, by dsimp only; omega, hrok, fun _ => hrn⟩ (by dsimp only; omega)
          dsimp only
          rw [hrn]; exact hn1 hrn
    · have hre : run = [] := hend (by omega)
      have hbD : bs = D := by
        rw [← hbs, hre, List.drop_eq_nil_of_le (by omega)]; simp [difR]
      subst hbD
      refine Body.exit ?_
      refine Then.exit ?_
      refine Round.exit ?_
      refine Blk.here ?_
      refine Then.next ?_
      refine Body.seq ?_
      refine Body.region ?_
      refine Ops.u (Dtu.mv (lk rfl)) rfl ?_
      refine Ops.u (Dtu.asg (lk rfl)) rfl ?_
      refine Ops.nil ?_
      refine Then.next ?_
      refine Body.ret ?_
      exact ⟨.inr rfl, _, pk [1] rfl, O, rfl, rfl⟩
  · refine Body.seq ?_
    refine Body.region ?_
    refine Ops.s (Stp.box (lk rfl) rfl (fun b2 => ?_)) rfl
    refine Ops.s (Stp.box (lk rfl) rfl (fun b3 => ?_)) rfl
    refine Ops.u (Dtu.asg (lk rfl)) rfl ?_
    refine Ops.nil ?_
    refine Then.next ?_
    refine Body.seq ?_
    refine Body.region ?_
    refine Ops.d (Det.lda Try.isAgg30 Try.sizeOf30 (lk rfl) (Rds.ow (m := 6) 0 rfl rfl) rfl) rfl ?_
    refine Ops.s (Stp.call rfl Try.call61 (lks rfl) (fun E' le hat => rhead_ok E' ⟨_, _, _, _, _, _⟩ _ _ _ (by assumption)) ?_) rfl
    rintro _ _ ⟨s12, rfl, rfl⟩
    refine Ops.u (Dtu.asg (lk rfl)) rfl ?_
    refine Ops.nil ?_
    refine Then.next ?_
    refine Body.seq ?_
    refine Body.region ?_
    refine Ops.d (Det.lda Try.isAgg30 Try.sizeOf30 (lk rfl) (Rds.ow (m := 6) 2 rfl rfl) rfl) rfl ?_
    refine Ops.u (Dtu.fld fa30_0 (lk rfl)) rfl ?_
    refine Ops.u (Dtu.fld fa28_0 (lk rfl)) rfl ?_
    refine Ops.d (Det.ld Try.isAgg3 (lk rfl) (Rd.ow 1 rfl rfl)) rfl ?_
    refine Ops.u (Dtu.fld fa30_0 (lk rfl)) rfl ?_
    refine Ops.u (Dtu.fld fa28_1 (lk rfl)) rfl ?_
    refine Ops.d (Det.ld Try.isAgg3 (lk rfl) (Rd.ow 1 rfl rfl)) rfl ?_
    refine Ops.s (Stp.call rfl Try.call62 (lks rfl) (fun E' le hat => hbn E' he) ?_) rfl
    rintro _ _ ⟨wa, wm, wc, rfl, rfl⟩
    refine Ops.u (Dtu.asg (lk rfl)) rfl ?_
    refine Ops.nil ?_
    refine Then.next ?_
    refine Body.seq ?_
    refine Body.region ?_
    refine Ops.u (Dtu.asg (lk rfl)) rfl ?_
    refine Ops.nil ?_
    refine Then.next ?_
    refine Body.seq ?_
    refine Body.region ?_
    refine Ops.u (Dtu.asg (lk rfl)) rfl ?_
    refine Ops.u (Dtu.asg (lk rfl)) rfl ?_
    refine Ops.nil ?_
    refine Then.next ?_
    refine Body.seq ?_
    refine Body.seq ?_
    refine Body.region ?_
    refine Ops.u (Dtu.asg (lk rfl)) rfl ?_
    refine Ops.nil ?_
    refine Then.next ?_
    refine Body.block ?_
    refine Body.conseq (H' := [osl 5 1 (.slice none 0 0) 0 [], osl 65 11 (.slice wa wm wc) (baseC a b.rows b.cols).length ((baseC a b.rows b.cols).flatMap Cell.renc), osl 5 1 s12 5 (b.head.map (.int .u8)), own b3 [.int .i64 b.rows, .int .i64 b.cols, .slice ta tm tc, .int .i64 b.row, .int .i64 b.col, .bool b.vis] 30, own b2 [.int .i64 a.rows, .int .i64 a.cols, .slice sa sm sc, .int .i64 a.row, .int .i64 a.col, .bool a.vis] 30]) (fun w s => osl_nil s) ?_
    refine Body.loopF (γ := Nat × Nat × Nat × Value × Value × List Int × Unit × List Cell) rfl (fun g => [(10, .int .i64 g.1), (8, .int .i64 g.2.1), (9, .int .i64 g.2.2.1), (5, g.2.2.2.1), (7, g.2.2.2.2.1)])
      (fun g => [osl 5 1 g.2.2.2.2.1 (g.2.2.2.2.2.2.2.flatMap Cell.bytes).length ((g.2.2.2.2.2.2.2.flatMap Cell.bytes).map (.int .u8)), osl 65 11 (.slice wa wm wc) (baseC a b.rows b.cols).length ((baseC a b.rows b.cols).flatMap Cell.renc), osl 5 1 g.2.2.2.1 g.2.2.2.2.2.1.length (g.2.2.2.2.2.1.map (.int .u8)), own b3 [.int .i64 b.rows, .int .i64 b.cols, .slice ta tm tc, .int .i64 b.row, .int .i64 b.col, .bool b.vis] 30, own b2 [.int .i64 a.rows, .int .i64 a.cols, .slice sa sm sc, .int .i64 a.row, .int .i64 a.col, .bool a.vis] 30])
      (fun g => g.1 ≤ b.cells.length + 1 ∧ g.2.1 = g.2.2.2.2.2.2.2.length ∧ g.2.2.1 ≤ g.1 ∧ g.2.2.2.2.2.1 ++ (difR g.2.2.1 g.2.2.2.2.2.2.2 (P.drop g.1)).flatMap encR = D ∧ g.2.2.2.2.2.1.length + 25 * g.2.1 ≤ 5 + 41 * g.1 ∧ g.2.1 ≤ g.1 ∧ (∀ c ∈ g.2.2.2.2.2.2.2, c.ok = true) ∧ (b.cells.length < g.1 → g.2.2.2.2.2.2.2 = [])) (fun g => b.cells.length + 1 - g.1) (0, 0, 0, s12, .slice none 0 0, b.head, (), []) ⟨by simp, by simp, by simp, by simp [hD], by simp [hb0], by simp, by simp, by simp⟩ ⟨rfl, rfl, rfl, rfl, rfl, trivial⟩ rfl ?_
    rintro ⟨i, n, k, O, R, bs, _, run⟩ u ⟨hi, hn, hk, hbs, hl, hni, hrok, hend⟩
    dsimp only at hi hn hk hbs hl hni hrok hend ⊢
    have hcl := cells_len hrok
    have hmx : b.cells.length ≤ 480 := by omega
    have hz1 := sizeS_le (k : Int)
    have hz2 := sizeS_le (n : Int)
    refine Body.seq ?_
    refine Body.seq ?_
    refine Body.region ?_
    refine Ops.u (Dtu.mv (lk rfl)) rfl ?_
    refine Ops.u (Dtu.mv (lk rfl)) rfl ?_
    refine Ops.u (Dtu.lenS Try.underlying26 (Sl.osl 1 rfl) (lk rfl)) rfl ?_
    refine Ops.u (Dtu.leq (lk rfl) (lk rfl)) rfl ?_
    refine Ops.nil ?_
    refine Then.next ?_
    refine Body.condP (lk rfl) (fun c24 => ?_) (fun c24 => ?_)
    · have hno : (i < b.cells.length → P[i]!.1 = P[i]!.2) → ((run = [] → bs ++ (difR (k + 1) [] (P.drop (i + 1))).flatMap encR = D) ∧ (run ≠ [] → bs ++ encR (k, run) ++ (difR 1 [] (P.drop (i + 1))).flatMap encR = D)) := fun h => ⟨fun h2 => by
          rw [h2] at hbs
          rw [← hbs]
          by_cases hlt : i < b.cells.length
          · rw [difR_eq (P := P) (i := i) (by omega) (h hlt)]
          · rw [List.drop_eq_nil_of_le (by omega), List.drop_eq_nil_of_le (by omega)]; rfl, fun h2 => by
          rw [← hbs, difR_end h2 (fun h3 => h (by omega))]
          simp⟩
      refine Body.skip ?_
      refine Then.next ?_
      refine Body.seq ?_
      refine Body.block ?_
      refine Body.seq ?_
      refine Body.seq ?_
      refine Body.draw mixed ?_
      refine AB.u 0 rfl (by decide +kernel) (Dtu.mv (lk rfl)) rfl ?_
      refine AB.u 1 rfl (by decide +kernel) (Dtu.mv (lk rfl)) rfl ?_
      refine AB.u 2 rfl (by decide +kernel) (Dtu.lenS Try.underlying26 (Sl.osl 1 rfl) (lk rfl)) rfl ?_
      refine AB.u 3 rfl (by decide +kernel) (Dtu.lss (lk rfl) (lk rfl)) rfl ?_
      refine AB.u 4 rfl (by decide +kernel) (Dtu.mv (lk rfl)) rfl ?_
      refine AB.decP 31 rfl (fun c31 => ?_) (fun c31 => ?_)
      · obtain ⟨p1, p2⟩ := hPi i (by omega)
        have w1 : (baseC a b.rows b.cols)[i]!.Fl := by rw [getElem!_pos _ i (by omega)]; exact hwf _ (List.getElem_mem _)
        have w2 : b.cells[i]!.Fl := by rw [getElem!_pos _ i (by omega)]; exact lb _ (List.getElem_mem _)
        have hq := reqB_iff w1 w2
        have hcok : b.cells[i]!.ok = true := by rw [getElem!_pos _ i (by omega)]; exact ob _ (List.getElem_mem _)
        have hsz := Cell.size_13 hcok
        have hbytes := Cell.bytes_len b.cells[i]!
        obtain ⟨w3, w4⟩ := w2
        refine AB.gu 5 rfl (by decide +kernel) rfl rfl rfl (Dtu.mv (lk rfl)) rfl ?_
        refine AB.gu 6 rfl (by decide +kernel) rfl rfl rfl (Dtu.mv (lk rfl)) rfl ?_
        refine AB.gu 7 rfl (by decide +kernel) rfl rfl rfl (Dtu.ix (i := (i)) Try.underlying26 Try.sizeOf65 (Sl.osl 1 rfl) (lk rfl) (lk rfl) (by omega) (by omega)) rfl ?_
        refine AB.gd 8 rfl (by decide +kernel) rfl rfl rfl rfl (Det.lda Try.isAgg65 Try.sizeOf65 (lk rfl) (Rds.sl (Sl.osl 1 rfl) (gf (sz := 11) (fun _ => rfl) (by omega))) rfl) rfl ?_
        refine AB.gu 9 rfl (by decide +kernel) rfl rfl rfl (Dtu.fld fa30_0 (lk rfl)) rfl ?_
        refine AB.gu 10 rfl (by decide +kernel) rfl rfl rfl (Dtu.fld fa28_2 (lk rfl)) rfl ?_
        refine AB.gd 11 rfl (by decide +kernel) rfl rfl rfl rfl (Det.ld Try.isAgg26 (lk rfl) (Rd.ow 3 rfl rfl)) rfl ?_
        refine AB.gu 12 rfl (by decide +kernel) rfl rfl rfl (Dtu.mv (lk rfl)) rfl ?_
        refine AB.gu 13 rfl (by decide +kernel) rfl rfl rfl (Dtu.ix (i := (i)) Try.underlying26 Try.sizeOf65 (Sl.up hb) (lk rfl) (lk rfl) (by omega) (by omega)) rfl ?_
        refine AB.gd 14 rfl (by decide +kernel) rfl rfl rfl rfl (Det.lda Try.isAgg65 Try.sizeOf65 (lk rfl) (Rds.sl (Sl.up hb) (gf (sz := 11) (fun _ => rfl) (by omega))) rfl) rfl ?_
        refine AB.gu 15 rfl (by decide +kernel) rfl rfl rfl (Dtu.neS eqGuard65 (eq65 _ _) (lk rfl) (lk rfl)) rfl ?_
        refine AB.u 16 rfl (by decide +kernel) (Dtu.pickT (lk rfl) (lk rfl)) rfl ?_
        refine AB.done (by decide +kernel) ?_
        refine Then.next ?_
        refine Body.cond (lk rfl) (fun c43 => ?_) (fun c43 => ?_)
        · have hne : ¬ P[i]!.1 = P[i]!.2 := by rw [p1, p2]; exact fun e => by rw [hq.2 e] at c43; simp at c43
          refine Body.seq ?_
          refine Body.region ?_
          refine Ops.u (Dtu.mv (lk rfl)) rfl ?_
          refine Ops.u (Dtu.fld fa30_0 (lk rfl)) rfl ?_
          refine Ops.u (Dtu.fld fa28_2 (lk rfl)) rfl ?_
          refine Ops.d (Det.ld Try.isAgg26 (lk rfl) (Rd.ow 3 rfl rfl)) rfl ?_
          refine Ops.u (Dtu.mv (lk rfl)) rfl ?_
          refine Ops.u (Dtu.ix (i := (i)) Try.underlying26 Try.sizeOf65 (Sl.up hb) (lk rfl) (lk rfl) (by omega) (by omega)) rfl ?_
          refine Ops.d (Det.lda Try.isAgg65 Try.sizeOf65 (lk rfl) (Rds.sl (Sl.up hb) (gf (sz := 11) (fun _ => rfl) (by omega))) rfl) rfl ?_
          refine Ops.s (Stp.call rfl Try.call37 (lks rfl) (fun E' le hat => rputCell_ok E' ⟨_, _, _, _⟩ (by constructor <;> assumption) (by assumption)) ?_) rfl
          rintro _ _ ⟨s51, hz51, rfl, rfl⟩
          refine Ops.s (Stp.append 1 Try.underlying32 ty5 rfl rfl (lk rfl) (lk rfl) (Sl.osl 0 rfl) (by first | rfl | exact all_map (fun _ => rfl) _ | exact all_flat (fun _ => rfl) _) (by omega) (by omega) (fun v52 => ?_)) rfl
          refine Ops.u (Dtu.asg (lk rfl)) rfl ?_
          refine Ops.nil ?_
          refine Then.next ?_
          refine Body.seq ?_
          refine Body.region ?_
          refine Ops.u (Dtu.mv (lk rfl)) rfl ?_
          refine Ops.u (Dtu.add (lk rfl) (lk rfl) (w64 (by omega) (by omega))) rfl ?_
          refine Ops.u (Dtu.asg (lk rfl)) rfl ?_
          refine Ops.nil ?_
          refine Then.next ?_
          refine Body.exit ?_
          refine Then.exit ?_
          refine Blk.here ?_
          refine Then.next ?_
          refine Body.region ?_
          refine Ops.u (Dtu.mv (lk rfl)) rfl ?_
          refine Ops.u (Dtu.add (lk rfl) (lk rfl) (w64 (by omega) (by omega))) rfl ?_
          refine Ops.u (Dtu.asg (lk rfl)) rfl ?_
          refine Ops.nil ?_
          refine Round.goK [1, 1, 1, 1, 1] (i + 1, n + 1, k, O, v52, bs, (), run ++ [b.cells[i]!]) rfl rfl rfl ⟨int_eq (by simp), int_eq (by simp), rfl, rfl, rfl, trivial⟩ rfl ?_ ⟨by dsimp only; omega, by simp [hn], by dsimp only; omega, ?_, by dsimp only; omega, by dsimp only; omega, ?_, fun h => by dsimp only at h; omega⟩ (by dsimp only; omega)
          · simp [Cell.bytes_len]
          · dsimp only
            rw [← hbs, difR_ne (P := P) (i := i) (by omega) hne, p2]
          · intro c hc
            rcases List.mem_append.1 hc with h | h
            · exact hrok c h
            · rw [List.mem_singleton.1 h]; exact hcok
        · have heq : P[i]!.1 = P[i]!.2 := by rw [p1, p2]; exact hq.1 (by simpa using c43)
          obtain ⟨hn1, hn2⟩ := hno (fun _ => heq)
          refine Body.skip ?_
          refine Then.next ?_
          refine Body.seq ?_
          refine Body.seq ?_
          refine Body.region ?_
          refine Ops.u (Dtu.mv (lk rfl)) rfl ?_
          refine Ops.u (Dtu.gtr (lk rfl) (lk rfl)) rfl ?_
          refine Ops.nil ?_
          refine Then.next ?_
          refine Body.condP (lk rfl) (fun c56 => ?_) (fun c56 => ?_)
          · have hrn : run ≠ [] := fun h => by rw [h] at hn; simp at hn; omega
            have hn2' := hn2 hrn
            refine Body.seq ?_
            refine Body.region ?_
            refine Ops.u (Dtu.mv (lk rfl)) rfl ?_
            refine Ops.u (Dtu.mv (lk rfl)) rfl ?_
            refine Ops.u (Dtu.cvt Try.underlying3 Try.underlying75 (lk rfl) (wu64 (by omega) (by omega))) rfl ?_
            refine Ops.s (Stp.call rfl Try.call63 (lks rfl) (fun E' le hat => rput_ok E' _ (by omega) (by omega)) ?_) rfl
            rintro _ _ ⟨sp60, rfl, rfl⟩
            refine Ops.s (Stp.append 3 Try.underlying32 ty5 rfl rfl (lk rfl) (lk rfl) (Sl.osl 0 rfl) (by first | rfl | exact all_map (fun _ => rfl) _ | exact all_flat (fun _ => rfl) _) (by omega) (by omega) (fun v61 => ?_)) rfl
            refine Ops.u (Dtu.asg (lk rfl)) rfl ?_
            refine Ops.nil ?_
            refine Then.next ?_
            refine Body.seq ?_
            refine Body.region ?_
            refine Ops.u (Dtu.mv (lk rfl)) rfl ?_
            refine Ops.u (Dtu.mv (lk rfl)) rfl ?_
            refine Ops.u (Dtu.cvt Try.underlying3 Try.underlying75 (lk rfl) (wu64 (by omega) (by omega))) rfl ?_
            refine Ops.s (Stp.call rfl Try.call63 (lks rfl) (fun E' le hat => rput_ok E' _ (by omega) (by omega)) ?_) rfl
            rintro _ _ ⟨sp65, rfl, rfl⟩
            refine Ops.s (Stp.append 4 Try.underlying32 ty5 rfl rfl (lk rfl) (lk rfl) (Sl.osl 0 rfl) (by first | rfl | exact all_map (fun _ => rfl) _ | exact all_flat (fun _ => rfl) _) (by omega) (by omega) (fun v66 => ?_)) rfl
            refine Ops.u (Dtu.asg (lk rfl)) rfl ?_
            refine Ops.nil ?_
            refine Then.next ?_
            refine Body.seq ?_
            refine Body.region ?_
            refine Ops.u (Dtu.mv (lk rfl)) rfl ?_
            refine Ops.u (Dtu.mv (lk rfl)) rfl ?_
            refine Ops.s (Stp.append 4 Try.underlying32 ty5 rfl rfl (lk rfl) (lk rfl) (Sl.osl 2 rfl) (by first | rfl | exact all_map (fun _ => rfl) _ | exact all_flat (fun _ => rfl) _) (by omega) (by omega) (fun v69 => ?_)) rfl
            refine Ops.u (Dtu.asg (lk rfl)) rfl ?_
            refine Ops.nil ?_
            refine Then.next ?_
            refine Body.region ?_
            refine Ops.u (Dtu.asg (lk rfl)) rfl ?_
            refine Ops.u (Dtu.asg (lk rfl)) rfl ?_
            refine Ops.u (Dtu.asg (lk rfl)) rfl ?_
            refine Ops.nil ?_
            refine Then.next ?_
            refine Body.region ?_
            refine Ops.u (Dtu.mv (lk rfl)) rfl ?_
            refine Ops.u (Dtu.add (lk rfl) (lk rfl) (w64 (by omega) (by omega))) rfl ?_
            refine Ops.u (Dtu.asg (lk rfl)) rfl ?_
            refine Ops.nil ?_
            refine Blk.norm ?_
            refine Then.next ?_
            refine Body.region ?_
            refine Ops.u (Dtu.mv (lk rfl)) rfl ?_
            refine Ops.u (Dtu.add (lk rfl) (lk rfl) (w64 (by omega) (by omega))) rfl ?_
            refine Ops.u (Dtu.asg (lk rfl)) rfl ?_
            refine Ops.nil ?_
            refine Round.goW (i + 1, 0, 1, v69, .slice none 0 0, bs ++ encR (k, run), (), []) rfl rfl rfl ⟨int_eq (by simp), rfl, rfl, rfl, rfl, trivial⟩ (fun w s => ?_) ⟨by dsimp only; omega, rfl, by dsimp only; omega, hn2', ?_, by dsimp only; omega, by simp, fun _ => rfl⟩ (by dsimp only; omega)
            · have s2 := pk [3, 3, 3, 3] rfl w s
              have s3 := osl_nil (t := 5) (sz := 1) (a := none) s2
              have e : bs ++ encR (k, run) = bs ++ putL (k : Int) ++ putL (n : Int) ++ run.flatMap Cell.bytes := by simp [encR, hn]
              dsimp only
              rw [e]
              simpa [putL_len, Nat.add_assoc] using s3
            · dsimp only
              simp only [encR, List.length_append, putL_len, ← hn]; omega
          · have hrn : run = [] := List.length_eq_zero_iff.1 (by omega)
            refine Body.skip ?_
            refine Then.next ?_
            refine Body.region ?_
            refine Ops.u (Dtu.mv (lk rfl)) rfl ?_
            refine Ops.u (Dtu.add (lk rfl) (lk rfl) (w64 (by omega) (by omega))) rfl ?_
            refine Ops.u (Dtu.asg (lk rfl)) rfl ?_
            refine Ops.nil ?_
            refine Blk.norm ?_
            refine Then.next ?_
            refine Body.region ?_
            refine Ops.u (Dtu.mv (lk rfl)) rfl ?_
            refine Ops.u (Dtu.add (lk rfl) (lk rfl) (w64 (by omega) (by omega))) rfl ?_
            refine Ops.u (Dtu.asg (lk rfl)) rfl ?_
            refine Ops.nil ?_
            refine Round.goK [0, 0, 0, 0, 0] (i + 1, n, k + 1, O, R, bs, (), run) rfl rfl rfl ⟨int_eq (by simp), rfl, int_eq (by simp), rfl, rfl, trivial⟩ rfl rfl ⟨by dsimp only; omega, hn, by dsimp only; omega, ?_, by dsimp only; omega, by dsimp only; omega, hrok, fun _ => hrn⟩ (by dsimp only; omega)
            dsimp only
            rw [hrn]; exact hn1 hrn
      · obtain ⟨hn1, hn2⟩ := hno (fun h => by omega)
        refine AB.gn 5 rfl (by decide +kernel) rfl rfl rfl rfl rfl ?_
        refine AB.gn 6 rfl (by decide +kernel) rfl rfl rfl rfl rfl ?_
        refine AB.gn 7 rfl (by decide +kernel) rfl rfl rfl rfl rfl ?_
        refine AB.gn 8 rfl (by decide +kernel) rfl rfl rfl rfl rfl ?_
        refine AB.gn 9 rfl (by decide +kernel) rfl rfl rfl rfl rfl ?_
        refine AB.gn 10 rfl (by decide +kernel) rfl rfl rfl rfl rfl ?_
        refine AB.gn 11 rfl (by decide +kernel) rfl rfl rfl rfl rfl ?_
        refine AB.gn 12 rfl (by decide +kernel) rfl rfl rfl rfl rfl ?_
        refine AB.gn 13 rfl (by decide +kernel) rfl rfl rfl rfl rfl ?_
        refine AB.gn 14 rfl (by decide +kernel) rfl rfl rfl rfl rfl ?_
        refine AB.gn 15 rfl (by decide +kernel) rfl rfl rfl rfl rfl ?_
        refine AB.u 16 rfl (by decide +kernel) (Dtu.pickF (lk rfl) (lk rfl)) rfl ?_
        refine AB.done (by decide +kernel) ?_
        refine Then.next ?_
        refine Body.condF (lk rfl) ?_
        refine Body.skip ?_
        refine Then.next ?_
        refine Body.seq ?_
        refine Body.seq ?_
        refine Body.region ?_
        refine Ops.u (Dtu.mv (lk rfl)) rfl ?_
        refine Ops.u (Dtu.gtr (lk rfl) (lk rfl)) rfl ?_
        refine Ops.nil ?_
        refine Then.next ?_
        refine Body.condP (lk rfl) (fun c56 => ?_) (fun c56 => ?_)
        · have hrn : run ≠ [] := fun h => by rw [h] at hn; simp at hn; omega
          have hn2' := hn2 hrn
          refine Body.seq ?_
          refine Body.region ?_
          refine Ops.u (Dtu.mv (lk rfl)) rfl ?_
          refine Ops.u (Dtu.mv (lk rfl)) rfl ?_
          refine Ops.u (Dtu.cvt Try.underlying3 Try.underlying75 (lk rfl) (wu64 (by omega) (by omega))) rfl ?_
          refine Ops.s (Stp.call rfl Try.call63 (lks rfl) (fun E' le hat => rput_ok E' _ (by omega) (by omega)) ?_) rfl
          rintro _ _ ⟨sp60, rfl, rfl⟩
          refine Ops.s (Stp.append 3 Try.underlying32 ty5 rfl rfl (lk rfl) (lk rfl) (Sl.osl 0 rfl) (by first | rfl | exact all_map (fun _ => rfl) _ | exact all_flat (fun _ => rfl) _) (by omega) (by omega) (fun v61 => ?_)) rfl
          refine Ops.u (Dtu.asg (lk rfl)) rfl ?_
          refine Ops.nil ?_
          refine Then.next ?_
          refine Body.seq ?_
          refine Body.region ?_
          refine Ops.u (Dtu.mv (lk rfl)) rfl ?_
          refine Ops.u (Dtu.mv (lk rfl)) rfl ?_
          refine Ops.u (Dtu.cvt Try.underlying3 Try.underlying75 (lk rfl) (wu64 (by omega) (by omega))) rfl ?_
          refine Ops.s (Stp.call rfl Try.call63 (lks rfl) (fun E' le hat => rput_ok E' _ (by omega) (by omega)) ?_) rfl
          rintro _ _ ⟨sp65, rfl, rfl⟩
          refine Ops.s (Stp.append 4 Try.underlying32 ty5 rfl rfl (lk rfl) (lk rfl) (Sl.osl 0 rfl) (by first | rfl | exact all_map (fun _ => rfl) _ | exact all_flat (fun _ => rfl) _) (by omega) (by omega) (fun v66 => ?_)) rfl
          refine Ops.u (Dtu.asg (lk rfl)) rfl ?_
          refine Ops.nil ?_
          refine Then.next ?_
          refine Body.seq ?_
          refine Body.region ?_
          refine Ops.u (Dtu.mv (lk rfl)) rfl ?_
          refine Ops.u (Dtu.mv (lk rfl)) rfl ?_
          refine Ops.s (Stp.append 4 Try.underlying32 ty5 rfl rfl (lk rfl) (lk rfl) (Sl.osl 2 rfl) (by first | rfl | exact all_map (fun _ => rfl) _ | exact all_flat (fun _ => rfl) _) (by omega) (by omega) (fun v69 => ?_)) rfl
          refine Ops.u (Dtu.asg (lk rfl)) rfl ?_
          refine Ops.nil ?_
          refine Then.next ?_
          refine Body.region ?_
          refine Ops.u (Dtu.asg (lk rfl)) rfl ?_
          refine Ops.u (Dtu.asg (lk rfl)) rfl ?_
          refine Ops.u (Dtu.asg (lk rfl)) rfl ?_
          refine Ops.nil ?_
          refine Then.next ?_
          refine Body.region ?_
          refine Ops.u (Dtu.mv (lk rfl)) rfl ?_
          refine Ops.u (Dtu.add (lk rfl) (lk rfl) (w64 (by omega) (by omega))) rfl ?_
          refine Ops.u (Dtu.asg (lk rfl)) rfl ?_
          refine Ops.nil ?_
          refine Blk.norm ?_
          refine Then.next ?_
          refine Body.region ?_
          refine Ops.u (Dtu.mv (lk rfl)) rfl ?_
          refine Ops.u (Dtu.add (lk rfl) (lk rfl) (w64 (by omega) (by omega))) rfl ?_
          refine Ops.u (Dtu.asg (lk rfl)) rfl ?_
          refine Ops.nil ?_
          refine Round.goW (i + 1, 0, 1, v69, .slice none 0 0, bs ++ encR (k, run), (), []) rfl rfl rfl ⟨int_eq (by simp), rfl, rfl, rfl, rfl, trivial⟩ (fun w s => ?_) ⟨by dsimp only; omega, rfl, by dsimp only; omega, hn2', ?_, by dsimp only; omega, by simp, fun _ => rfl⟩ (by dsimp only; omega)
          · have s2 := pk [3, 3, 3, 3] rfl w s
            have s3 := osl_nil (t := 5) (sz := 1) (a := none) s2
            have e : bs ++ encR (k, run) = bs ++ putL (k : Int) ++ putL (n : Int) ++ run.flatMap Cell.bytes := by simp [encR, hn]
            dsimp only
            rw [e]
            simpa [putL_len, Nat.add_assoc] using s3
          · dsimp only
            simp only [encR, List.length_append, putL_len, ← hn]; omega
        · have hrn : run = [] := List.length_eq_zero_iff.1 (by omega)
          refine Body.skip ?_
          refine Then.next ?_
          refine Body.region ?_
          refine Ops.u (Dtu.mv (lk rfl)) rfl ?_
          refine Ops.u (Dtu.add (lk rfl) (lk rfl) (w64 (by omega) (by omega))) rfl ?_
          refine Ops.u (Dtu.asg (lk rfl)) rfl ?_
          refine Ops.nil ?_
          refine Blk.norm ?_
          refine Then.next ?_
          refine Body.region ?_
          refine Ops.u (Dtu.mv (lk rfl)) rfl ?_
          refine Ops.u (Dtu.add (lk rfl) (lk rfl) (w64 (by omega) (by omega))) rfl ?_
          refine Ops.u (Dtu.asg (lk rfl)) rfl ?_
          refine Ops.nil ?_
          refine Round.goK [0, 0, 0, 0, 0] (i + 1, n, k + 1, O, R, bs, (), run) rfl rfl rfl ⟨int_eq (by simp), rfl, int_eq (by simp), rfl, rfl, trivial⟩ rfl rfl ⟨by dsimp only; omega, hn, by dsimp only; omega, ?_, by dsimp only; omega, by dsimp only; omega, hrok, fun _ => hrn⟩ (by dsimp only; omega)
          dsimp only
          rw [hrn]; exact hn1 hrn
    · have hre : run = [] := hend (by omega)
      have hbD : bs = D := by
        rw [← hbs, hre, List.drop_eq_nil_of_le (by omega)]; simp [difR]
      subst hbD
      refine Body.exit ?_
      refine Then.exit ?_
      refine Round.exit ?_
      refine Blk.here ?_
      refine Then.next ?_
      refine Body.seq ?_
      refine Body.region ?_
      refine Ops.u (Dtu.mv (lk rfl)) rfl ?_
      refine Ops.u (Dtu.asg (lk rfl)) rfl ?_
      refine Ops.nil ?_
      refine Then.next ?_
      refine Body.ret ?_
      exact ⟨.inr rfl, _, pk [2] rfl, O, rfl, rfl⟩
end Go.Proofs.Ytijjjdljdjnbaaa
end
