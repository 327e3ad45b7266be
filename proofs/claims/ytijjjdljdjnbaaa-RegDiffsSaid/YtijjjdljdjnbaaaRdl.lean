/- Ql: OpenC, CellsW, OpenD, PatN, RegJ, RegK, RegL, RegM, RegN, RegO, RegP, OpenK. -/
import Derived.Test.YtijjjdljdjnbaaaRda
import Derived.Test.YtijjjdljdjnbaaaRdb
import Derived.Test.YtijjjdljdjnbaaaRdc
import Derived.Test.YtijjjdljdjnbaaaRdd
import Derived.Test.YtijjjdljdjnbaaaRde
import Derived.Test.YtijjjdljdjnbaaaRdf
import Derived.Test.YtijjjdljdjnbaaaRdg
import Derived.Test.YtijjjdljdjnbaaaRdh
import Derived.Test.YtijjjdljdjnbaaaRdi
import Derived.Test.YtijjjdljdjnbaaaRdj
import Derived.Test.YtijjjdljdjnbaaaRdk
section
/- A cell as an argument. -/
namespace Go.Proofs.Ytijjjdljdjnbaaa
set_option maxRecDepth 100000
set_option linter.unusedVariables false
set_option linter.unusedSimpArgs false
open Go.Sx Go.ChangeShapes Go.RowKit Go.WideShapes

end Go.Proofs.Ytijjjdljdjnbaaa
end
section
/- ViewCells: what it computes. -/
namespace Go.Proofs.Ytijjjdljdjnbaaa
set_option maxRecDepth 100000
set_option linter.unusedVariables false
set_option linter.unusedSimpArgs false
open Go.Sx

end Go.Proofs.Ytijjjdljdjnbaaa
end
section
/- Views and bytes as arguments, for the document's walk. -/
namespace Go.Proofs.Ytijjjdljdjnbaaa
open Go.Sx

theorem Cell.In32.Cols {c : Cell} (h : c.In32) : c.Cols := ⟨h.1.2.2.1, h.1.2.2.2.1, h.1.2.2.2.2.1, h.1.2.2.2.2.2⟩
end Go.Proofs.Ytijjjdljdjnbaaa
end
section
/- PatchApplies: what it computes. -/
namespace Go.Proofs.Ytijjjdljdjnbaaa
set_option maxRecDepth 100000
set_option linter.unusedVariables false
set_option linter.unusedSimpArgs false
open Go.Sx

/-- what Apply tells: a view, an error; is there one? -/
def avV (a : View) (bs : List Int) : View := (applyV a bs).getD View.none
def avK (a : View) (bs : List Int) : Bool := (applyV a bs).isSome
end Go.Proofs.Ytijjjdljdjnbaaa
end
section
/- The document's states: the fields that bytes have. -/
namespace Go.Proofs.Ytijjjdljdjnbaaa
set_option maxRecDepth 100000
set_option linter.unusedVariables false
set_option linter.unusedSimpArgs false
open Go.Sx

end Go.Proofs.Ytijjjdljdjnbaaa
end
section
/- The document's states: of the program's ones; which may be; which are the same; changes. -/
namespace Go.Proofs.Ytijjjdljdjnbaaa
set_option maxRecDepth 100000
set_option linter.unusedVariables false
set_option linter.unusedSimpArgs false
open Go.Sx

theorem as22_ok (E : Env) (x : Stt) (s : Value) (h : x.v.has E [] s) (hf : ∀ c ∈ x.v.cells, c.Fl) (hn : x.v.cells.length ≤ 1000) : Does Try.prog 40 #[x.val s] E [] fun r H' => ∃ (ta : Option Addr) (tm tc : Nat), r = x.val (.slice ta tm tc) ∧ H' = [osl 65 11 (.slice ta tm tc) x.v.cells.length (x.v.cells.flatMap Cell.renc)] := by
  unfold View.has at h
  refine Does.pure h.isSl fun hs => ?_
  obtain ⟨a, m, k, rfl⟩ := hs
  obtain ⟨⟨r1, c1, l1, o1, q1, v1⟩, t1, p1, n1, b1⟩ := x
  dsimp only at h hf hn
  refine Does.go (args := [Stt.val ⟨⟨r1, c1, l1, o1, q1, v1⟩, t1, p1, n1, b1⟩ (.slice a m k)]) _ _ Try.func40 rfl Try.ntmps40 rfl rfl ?_
  refine Body.seq ?_
  refine Body.region ?_
  refine Ops.s (Stp.box (lk rfl) rfl (fun b1 => ?_)) rfl
  refine Ops.s (Stp.alloc ty80 (fun b2 => ?_)) rfl
  refine Ops.nil ?_
  refine Then.next ?_
  refine Body.seq ?_
  refine Body.draw mixed ?_
  refine AB.u 0 rfl (by decide +kernel) (Dtu.fld fa77_0 (lk rfl)) rfl ?_
  refine AB.d 1 rfl (by decide +kernel) rfl (Det.lda Try.isAgg24 Try.sizeOf24 (lk rfl) (Rds.ow (m := 6) 1 rfl rfl) rfl) rfl ?_
  refine AB.u 3 rfl (by decide +kernel) (Dtu.fld fa77_1 (lk rfl)) rfl ?_
  refine AB.d 4 rfl (by decide +kernel) rfl (Det.ld Try.isAgg9 (lk rfl) (Rd.ow 1 rfl rfl)) rfl ?_
  refine AB.u 5 rfl (by decide +kernel) (Dtu.fld fa77_2 (lk rfl)) rfl ?_
  refine AB.d 6 rfl (by decide +kernel) rfl (Det.ld Try.isAgg9 (lk rfl) (Rd.ow 1 rfl rfl)) rfl ?_
  refine AB.u 7 rfl (by decide +kernel) (Dtu.fld fa77_3 (lk rfl)) rfl ?_
  refine AB.d 8 rfl (by decide +kernel) rfl (Det.ld Try.isAgg75 (lk rfl) (Rd.ow 1 rfl rfl)) rfl ?_
  refine AB.u 9 rfl (by decide +kernel) (Dtu.fld fa77_4 (lk rfl)) rfl ?_
  refine AB.d 10 rfl (by decide +kernel) rfl (Det.ld Try.isAgg75 (lk rfl) (Rd.ow 1 rfl rfl)) rfl ?_
  refine AB.s 2 rfl (by decide +kernel) (by decide +kernel) (Stp.call rfl Try.call16 (lks rfl) (fun E' le hat => as20_ok E' ⟨_, _, _, _, _, _⟩ _ (Sl.mono (by assumption) le) (by assumption) (by first | assumption | omega)) ?_) rfl
  rintro _ _ ⟨xa5, xm5, xc5, rfl, rfl⟩
  refine AB.u 11 rfl (by decide +kernel) (Dtu.build ty80 pl80 (lkp rfl) rfl rfl) rfl ?_
  refine AB.e 12 rfl (by decide +kernel) (by decide +kernel) (Stp.store 1 Try.sizeOf80 (lk rfl) (lk rfl) rfl rfl rfl rfl rfl rfl rfl ?_)
  refine AB.done (by decide +kernel) ?_
  refine Then.next ?_
  refine Body.ret ?_
  exact ⟨.inr rfl, _, Loads.agg Try.isAgg80 Try.sizeOf80 (Rds.ow (m := 10) 1 rfl rfl) rfl, _, pk [0] rfl, xa5, xm5, xc5, rfl, rfl⟩
theorem rright22_ok (E : Env) (x : Stt) (s : Value) (h : x.v.rhas E [] s) (hc : ∀ c ∈ x.v.cells, c.Cols) : Does Try.prog 43 #[x.val s] E [] fun r H' => r = .bool x.ok ∧ H' = [] := by
  unfold View.rhas at h
  refine Does.pure h.isSl fun hs => ?_
  obtain ⟨sa, sm, sc, rfl⟩ := hs
  refine Does.go (args := [x.val _]) _ _ Try.func43 rfl Try.ntmps43 rfl rfl ?_
  refine Body.seq ?_
  refine Body.region ?_
  refine Ops.s (Stp.box (lk rfl) rfl (fun b1 => ?_)) rfl
  refine Ops.u (Dtu.asg (lk rfl)) rfl ?_
  refine Ops.nil ?_
  refine Then.next ?_
  refine Body.seq ?_
  refine Body.region ?_
  refine Ops.u (Dtu.fld fa80_0 (lk rfl)) rfl ?_
  refine Ops.d (Det.lda Try.isAgg30 Try.sizeOf30 (lk rfl) (Rds.ow (m := 6) 0 rfl rfl) rfl) rfl ?_
  refine Ops.s (Stp.call rfl Try.call18 (lks rfl) (fun E' le hat => rright_ok E' ⟨_, _, _, _, _, _⟩ _ (Sl.mono (by assumption) le) (by assumption)) ?_) rfl
  rintro _ _ ⟨rfl, rfl⟩
  refine Ops.u (Dtu.mv (lk rfl)) rfl ?_
  refine Ops.dec 6 rfl (fun c6 => ?_) (fun c6 => ?_)
  · refine Ops.gu rfl rfl rfl (Dtu.fld fa80_1 (lk rfl)) rfl ?_
    refine Ops.gd rfl rfl rfl (Det.ld Try.isAgg9 (lk rfl) (Rd.ow 0 rfl rfl)) rfl ?_
    refine Ops.gu rfl rfl rfl (Dtu.lenStr Try.underlying9 (lk rfl)) rfl ?_
    refine Ops.gu rfl rfl rfl (Dtu.leq (lk rfl) (lk rfl)) rfl ?_
    refine Ops.u (Dtu.pickT (lk rfl) (lk rfl)) rfl ?_
    refine Ops.u (Dtu.mv (lk rfl)) rfl ?_
    refine Ops.decP 12 rfl (fun c12 => ?_) (fun c12 => ?_)
    · refine Ops.gu rfl rfl rfl (Dtu.fld fa80_2 (lk rfl)) rfl ?_
      refine Ops.gd rfl rfl rfl (Det.ld Try.isAgg9 (lk rfl) (Rd.ow 0 rfl rfl)) rfl ?_
      refine Ops.gu rfl rfl rfl (Dtu.lenStr Try.underlying9 (lk rfl)) rfl ?_
      refine Ops.gu rfl rfl rfl (Dtu.leq (lk rfl) (lk rfl)) rfl ?_
      refine Ops.u (Dtu.pickT (lk rfl) (lk rfl)) rfl ?_
      refine Ops.u (Dtu.mv (lk rfl)) rfl ?_
      refine Ops.decP 18 rfl (fun c18 => ?_) (fun c18 => ?_)
      · refine Ops.gu rfl rfl rfl (Dtu.fld fa80_3 (lk rfl)) rfl ?_
        refine Ops.gd rfl rfl rfl (Det.ld Try.isAgg75 (lk rfl) (Rd.ow 0 rfl rfl)) rfl ?_
        refine Ops.gu rfl rfl rfl (Dtu.leq (lk rfl) (lk rfl)) rfl ?_
        refine Ops.u (Dtu.pickT (lk rfl) (lk rfl)) rfl ?_
        refine Ops.u (Dtu.mv (lk rfl)) rfl ?_
        refine Ops.decP 23 rfl (fun c23 => ?_) (fun c23 => ?_)
        · refine Ops.gu rfl rfl rfl (Dtu.fld fa80_4 (lk rfl)) rfl ?_
          refine Ops.gd rfl rfl rfl (Det.ld Try.isAgg75 (lk rfl) (Rd.ow 0 rfl rfl)) rfl ?_
          refine Ops.gu rfl rfl rfl (Dtu.leq (lk rfl) (lk rfl)) rfl ?_
          refine Ops.u (Dtu.pickT (lk rfl) (lk rfl)) rfl ?_
          refine Ops.u (Dtu.asg (lk rfl)) rfl ?_
          refine Ops.nil ?_
          refine Then.next ?_
          refine Body.ret ?_
          (refine ⟨.inr rfl, _, pk [] rfl, bool_eq ?_, rfl⟩; show _ ↔ (View.ok ⟨x.v.rows, x.v.cols, x.v.cells, x.v.row, x.v.col, x.v.vis⟩ && decide _) = true; simp only [Bool.and_eq_true, decide_eq_true_eq, Bool.false_eq_true, Bool.true_eq_false, true_and, false_and, true_iff, false_iff, iff_true, iff_false, not_and, *] <;> first | omega | (intro _; omega) | simp | (constructor <;> intros <;> first | omega | (simp_all; omega)))
        · refine Ops.gn rfl rfl rfl rfl rfl ?_
          refine Ops.gn rfl rfl rfl rfl rfl ?_
          refine Ops.gn rfl rfl rfl rfl rfl ?_
          refine Ops.u (Dtu.pickF (lk rfl) (lk rfl)) rfl ?_
          refine Ops.u (Dtu.asg (lk rfl)) rfl ?_
          refine Ops.nil ?_
          refine Then.next ?_
          refine Body.ret ?_
          (refine ⟨.inr rfl, _, pk [] rfl, bool_eq ?_, rfl⟩; show _ ↔ (View.ok ⟨x.v.rows, x.v.cols, x.v.cells, x.v.row, x.v.col, x.v.vis⟩ && decide _) = true; simp only [Bool.and_eq_true, decide_eq_true_eq, Bool.false_eq_true, Bool.true_eq_false, true_and, false_and, true_iff, false_iff, iff_true, iff_false, not_and, *] <;> first | omega | (intro _; omega) | simp | (constructor <;> intros <;> first | omega | (simp_all; omega)))
      · refine Ops.gn rfl rfl rfl rfl rfl ?_
        refine Ops.gn rfl rfl rfl rfl rfl ?_
        refine Ops.gn rfl rfl rfl rfl rfl ?_
        refine Ops.u (Dtu.pickF (lk rfl) (lk rfl)) rfl ?_
        refine Ops.u (Dtu.mv (lk rfl)) rfl ?_
        refine Ops.gn rfl rfl rfl rfl rfl ?_
        refine Ops.gn rfl rfl rfl rfl rfl ?_
        refine Ops.gn rfl rfl rfl rfl rfl ?_
        refine Ops.u (Dtu.pickF (lk rfl) (lk rfl)) rfl ?_
        refine Ops.u (Dtu.asg (lk rfl)) rfl ?_
        refine Ops.nil ?_
        refine Then.next ?_
        refine Body.ret ?_
        (refine ⟨.inr rfl, _, pk [] rfl, bool_eq ?_, rfl⟩; show _ ↔ (View.ok ⟨x.v.rows, x.v.cols, x.v.cells, x.v.row, x.v.col, x.v.vis⟩ && decide _) = true; simp only [Bool.and_eq_true, decide_eq_true_eq, Bool.false_eq_true, Bool.true_eq_false, true_and, false_and, true_iff, false_iff, iff_true, iff_false, not_and, *] <;> first | omega | (intro _; omega) | simp | (constructor <;> intros <;> first | omega | (simp_all; omega)))
    · refine Ops.gn rfl rfl rfl rfl rfl ?_
      refine Ops.gn rfl rfl rfl rfl rfl ?_
      refine Ops.gn rfl rfl rfl rfl rfl ?_
      refine Ops.gn rfl rfl rfl rfl rfl ?_
      refine Ops.u (Dtu.pickF (lk rfl) (lk rfl)) rfl ?_
      refine Ops.u (Dtu.mv (lk rfl)) rfl ?_
      refine Ops.gn rfl rfl rfl rfl rfl ?_
      refine Ops.gn rfl rfl rfl rfl rfl ?_
      refine Ops.gn rfl rfl rfl rfl rfl ?_
      refine Ops.u (Dtu.pickF (lk rfl) (lk rfl)) rfl ?_
      refine Ops.u (Dtu.mv (lk rfl)) rfl ?_
      refine Ops.gn rfl rfl rfl rfl rfl ?_
      refine Ops.gn rfl rfl rfl rfl rfl ?_
      refine Ops.gn rfl rfl rfl rfl rfl ?_
      refine Ops.u (Dtu.pickF (lk rfl) (lk rfl)) rfl ?_
      refine Ops.u (Dtu.asg (lk rfl)) rfl ?_
      refine Ops.nil ?_
      refine Then.next ?_
      refine Body.ret ?_
      (refine ⟨.inr rfl, _, pk [] rfl, bool_eq ?_, rfl⟩; show _ ↔ (View.ok ⟨x.v.rows, x.v.cols, x.v.cells, x.v.row, x.v.col, x.v.vis⟩ && decide _) = true; simp only [Bool.and_eq_true, decide_eq_true_eq, Bool.false_eq_true, Bool.true_eq_false, true_and, false_and, true_iff, false_iff, iff_true, iff_false, not_and, *] <;> first | omega | (intro _; omega) | simp | (constructor <;> intros <;> first | omega | (simp_all; omega)))
  · refine Ops.gn rfl rfl rfl rfl rfl ?_
    refine Ops.gn rfl rfl rfl rfl rfl ?_
    refine Ops.gn rfl rfl rfl rfl rfl ?_
    refine Ops.gn rfl rfl rfl rfl rfl ?_
    refine Ops.u (Dtu.pickF (lk rfl) (lk rfl)) rfl ?_
    refine Ops.u (Dtu.mv (lk rfl)) rfl ?_
    refine Ops.gn rfl rfl rfl rfl rfl ?_
    refine Ops.gn rfl rfl rfl rfl rfl ?_
    refine Ops.gn rfl rfl rfl rfl rfl ?_
    refine Ops.gn rfl rfl rfl rfl rfl ?_
    refine Ops.u (Dtu.pickF (lk rfl) (lk rfl)) rfl ?_
    refine Ops.u (Dtu.mv (lk rfl)) rfl ?_
    refine Ops.gn rfl rfl rfl rfl rfl ?_
    refine Ops.gn rfl rfl rfl rfl rfl ?_
    refine Ops.gn rfl rfl rfl rfl rfl ?_
    refine Ops.u (Dtu.pickF (lk rfl) (lk rfl)) rfl ?_
    refine Ops.u (Dtu.mv (lk rfl)) rfl ?_
    refine Ops.gn rfl rfl rfl rfl rfl ?_
    refine Ops.gn rfl rfl rfl rfl rfl ?_
    refine Ops.gn rfl rfl rfl rfl rfl ?_
    refine Ops.u (Dtu.pickF (lk rfl) (lk rfl)) rfl ?_
    refine Ops.u (Dtu.asg (lk rfl)) rfl ?_
    refine Ops.nil ?_
    refine Then.next ?_
    refine Body.ret ?_
    (refine ⟨.inr rfl, _, pk [] rfl, bool_eq ?_, rfl⟩; show _ ↔ (View.ok ⟨x.v.rows, x.v.cols, x.v.cells, x.v.row, x.v.col, x.v.vis⟩ && decide _) = true; simp only [Bool.and_eq_true, decide_eq_true_eq, Bool.false_eq_true, Bool.true_eq_false, true_and, false_and, true_iff, false_iff, iff_true, iff_false, not_and, *] <;> first | omega | (intro _; omega) | simp | (constructor <;> intros <;> first | omega | (simp_all; omega)))
theorem rsame22_ok (E : Env) (a b : Stt) (s t : Value) (ha : a.v.rhas E [] s) (hb : b.v.rhas E [] t) (fa : ∀ c ∈ a.v.cells, c.Fl) (fb : ∀ c ∈ b.v.cells, c.Fl) : Does Try.prog 45 #[a.val s, b.val t] E [] fun r H' => r = .bool (decide (a.eqv b)) ∧ H' = [] := by
  unfold View.rhas at ha hb
  refine Does.pure ha.isSl fun hs => ?_
  obtain ⟨sa, sm, sc, rfl⟩ := hs
  refine Does.pure hb.isSl fun hs => ?_
  obtain ⟨ta, tm, tc, rfl⟩ := hs
  refine Does.go (args := [a.val _, b.val _]) _ _ Try.func45 rfl Try.ntmps45 rfl rfl ?_
  refine Body.seq ?_
  refine Body.region ?_
  refine Ops.s (Stp.box (lk rfl) rfl (fun b2 => ?_)) rfl
  refine Ops.s (Stp.box (lk rfl) rfl (fun b3 => ?_)) rfl
  refine Ops.u (Dtu.asg (lk rfl)) rfl ?_
  refine Ops.nil ?_
  refine Then.next ?_
  refine Body.seq ?_
  refine Body.region ?_
  refine Ops.u (Dtu.fld fa80_0 (lk rfl)) rfl ?_
  refine Ops.d (Det.lda Try.isAgg30 Try.sizeOf30 (lk rfl) (Rds.ow (m := 6) 1 rfl rfl) rfl) rfl ?_
  refine Ops.u (Dtu.fld fa80_0 (lk rfl)) rfl ?_
  refine Ops.d (Det.lda Try.isAgg30 Try.sizeOf30 (lk rfl) (Rds.ow (m := 6) 0 rfl rfl) rfl) rfl ?_
  refine Ops.s (Stp.call rfl Try.call24 (lks rfl) (fun E' le hat => rsame_ok E' ⟨a.v.rows, a.v.cols, a.v.cells, a.v.row, a.v.col, a.v.vis⟩ ⟨b.v.rows, b.v.cols, b.v.cells, b.v.row, b.v.col, b.v.vis⟩ _ _ (Sl.mono ha le) (Sl.mono hb le) fa fb) ?_) rfl
  rintro _ _ ⟨rfl, rfl⟩
  refine Ops.u (Dtu.mv (lk rfl)) rfl ?_
  refine Ops.decP 10 rfl (fun c10 => ?_) (fun c10 => ?_)
  · refine Ops.gu rfl rfl rfl (Dtu.fld fa80_1 (lk rfl)) rfl ?_
    refine Ops.gd rfl rfl rfl (Det.ld Try.isAgg9 (lk rfl) (Rd.ow 1 rfl rfl)) rfl ?_
    refine Ops.gu rfl rfl rfl (Dtu.fld fa80_1 (lk rfl)) rfl ?_
    refine Ops.gd rfl rfl rfl (Det.ld Try.isAgg9 (lk rfl) (Rd.ow 0 rfl rfl)) rfl ?_
    refine Ops.gu rfl rfl rfl (Dtu.eqStr (lk rfl) (lk rfl)) rfl ?_
    refine Ops.u (Dtu.pickT (lk rfl) (lk rfl)) rfl ?_
    refine Ops.u (Dtu.mv (lk rfl)) rfl ?_
    refine Ops.decP 17 rfl (fun c17 => ?_) (fun c17 => ?_)
    · refine Ops.gu rfl rfl rfl (Dtu.fld fa80_2 (lk rfl)) rfl ?_
      refine Ops.gd rfl rfl rfl (Det.ld Try.isAgg9 (lk rfl) (Rd.ow 1 rfl rfl)) rfl ?_
      refine Ops.gu rfl rfl rfl (Dtu.fld fa80_2 (lk rfl)) rfl ?_
      refine Ops.gd rfl rfl rfl (Det.ld Try.isAgg9 (lk rfl) (Rd.ow 0 rfl rfl)) rfl ?_
      refine Ops.gu rfl rfl rfl (Dtu.eqStr (lk rfl) (lk rfl)) rfl ?_
      refine Ops.u (Dtu.pickT (lk rfl) (lk rfl)) rfl ?_
      refine Ops.u (Dtu.mv (lk rfl)) rfl ?_
      refine Ops.decP 24 rfl (fun c24 => ?_) (fun c24 => ?_)
      · refine Ops.gu rfl rfl rfl (Dtu.fld fa80_3 (lk rfl)) rfl ?_
        refine Ops.gd rfl rfl rfl (Det.ld Try.isAgg75 (lk rfl) (Rd.ow 1 rfl rfl)) rfl ?_
        refine Ops.gu rfl rfl rfl (Dtu.fld fa80_3 (lk rfl)) rfl ?_
        refine Ops.gd rfl rfl rfl (Det.ld Try.isAgg75 (lk rfl) (Rd.ow 0 rfl rfl)) rfl ?_
        refine Ops.gu rfl rfl rfl (Dtu.eql (lk rfl) (lk rfl)) rfl ?_
        refine Ops.u (Dtu.pickT (lk rfl) (lk rfl)) rfl ?_
        refine Ops.u (Dtu.mv (lk rfl)) rfl ?_
        refine Ops.decP 31 rfl (fun c31 => ?_) (fun c31 => ?_)
        · refine Ops.gu rfl rfl rfl (Dtu.fld fa80_4 (lk rfl)) rfl ?_
          refine Ops.gd rfl rfl rfl (Det.ld Try.isAgg75 (lk rfl) (Rd.ow 1 rfl rfl)) rfl ?_
          refine Ops.gu rfl rfl rfl (Dtu.fld fa80_4 (lk rfl)) rfl ?_
          refine Ops.gd rfl rfl rfl (Det.ld Try.isAgg75 (lk rfl) (Rd.ow 0 rfl rfl)) rfl ?_
          refine Ops.gu rfl rfl rfl (Dtu.eql (lk rfl) (lk rfl)) rfl ?_
          refine Ops.u (Dtu.pickT (lk rfl) (lk rfl)) rfl ?_
          refine Ops.u (Dtu.asg (lk rfl)) rfl ?_
          refine Ops.nil ?_
          refine Then.next ?_
          refine Body.ret ?_
          (refine ⟨.inr rfl, _, pk [] rfl, bool_eq ?_, rfl⟩; show _ ↔ decide ((View.mk a.v.rows a.v.cols a.v.cells a.v.row a.v.col a.v.vis = View.mk b.v.rows b.v.cols b.v.cells b.v.row b.v.col b.v.vis) ∧ a.title.toList = b.title.toList ∧ (a.clip.toList = b.clip.toList ∧ a.clips = b.clips) ∧ a.bells = b.bells) = true; simp [*] <;> simp_all)
        · refine Ops.gn rfl rfl rfl rfl rfl ?_
          refine Ops.gn rfl rfl rfl rfl rfl ?_
          refine Ops.gn rfl rfl rfl rfl rfl ?_
          refine Ops.gn rfl rfl rfl rfl rfl ?_
          refine Ops.gn rfl rfl rfl rfl rfl ?_
          refine Ops.u (Dtu.pickF (lk rfl) (lk rfl)) rfl ?_
          refine Ops.u (Dtu.asg (lk rfl)) rfl ?_
          refine Ops.nil ?_
          refine Then.next ?_
          refine Body.ret ?_
          (refine ⟨.inr rfl, _, pk [] rfl, bool_eq ?_, rfl⟩; show _ ↔ decide ((View.mk a.v.rows a.v.cols a.v.cells a.v.row a.v.col a.v.vis = View.mk b.v.rows b.v.cols b.v.cells b.v.row b.v.col b.v.vis) ∧ a.title.toList = b.title.toList ∧ (a.clip.toList = b.clip.toList ∧ a.clips = b.clips) ∧ a.bells = b.bells) = true; simp [*] <;> simp_all)
      · refine Ops.gn rfl rfl rfl rfl rfl ?_
        refine Ops.gn rfl rfl rfl rfl rfl ?_
        refine Ops.gn rfl rfl rfl rfl rfl ?_
        refine Ops.gn rfl rfl rfl rfl rfl ?_
        refine Ops.gn rfl rfl rfl rfl rfl ?_
        refine Ops.u (Dtu.pickF (lk rfl) (lk rfl)) rfl ?_
        refine Ops.u (Dtu.mv (lk rfl)) rfl ?_
        refine Ops.gn rfl rfl rfl rfl rfl ?_
        refine Ops.gn rfl rfl rfl rfl rfl ?_
        refine Ops.gn rfl rfl rfl rfl rfl ?_
        refine Ops.gn rfl rfl rfl rfl rfl ?_
        refine Ops.gn rfl rfl rfl rfl rfl ?_
        refine Ops.u (Dtu.pickF (lk rfl) (lk rfl)) rfl ?_
        refine Ops.u (Dtu.asg (lk rfl)) rfl ?_
        refine Ops.nil ?_
        refine Then.next ?_
        refine Body.ret ?_
        (refine ⟨.inr rfl, _, pk [] rfl, bool_eq ?_, rfl⟩; show _ ↔ decide ((View.mk a.v.rows a.v.cols a.v.cells a.v.row a.v.col a.v.vis = View.mk b.v.rows b.v.cols b.v.cells b.v.row b.v.col b.v.vis) ∧ a.title.toList = b.title.toList ∧ (a.clip.toList = b.clip.toList ∧ a.clips = b.clips) ∧ a.bells = b.bells) = true; simp [*] <;> simp_all)
    · refine Ops.gn rfl rfl rfl rfl rfl ?_
      refine Ops.gn rfl rfl rfl rfl rfl ?_
      refine Ops.gn rfl rfl rfl rfl rfl ?_
      refine Ops.gn rfl rfl rfl rfl rfl ?_
      refine Ops.gn rfl rfl rfl rfl rfl ?_
      refine Ops.u (Dtu.pickF (lk rfl) (lk rfl)) rfl ?_
      refine Ops.u (Dtu.mv (lk rfl)) rfl ?_
      refine Ops.gn rfl rfl rfl rfl rfl ?_
      refine Ops.gn rfl rfl rfl rfl rfl ?_
      refine Ops.gn rfl rfl rfl rfl rfl ?_
      refine Ops.gn rfl rfl rfl rfl rfl ?_
      refine Ops.gn rfl rfl rfl rfl rfl ?_
      refine Ops.u (Dtu.pickF (lk rfl) (lk rfl)) rfl ?_
      refine Ops.u (Dtu.mv (lk rfl)) rfl ?_
      refine Ops.gn rfl rfl rfl rfl rfl ?_
      refine Ops.gn rfl rfl rfl rfl rfl ?_
      refine Ops.gn rfl rfl rfl rfl rfl ?_
      refine Ops.gn rfl rfl rfl rfl rfl ?_
      refine Ops.gn rfl rfl rfl rfl rfl ?_
      refine Ops.u (Dtu.pickF (lk rfl) (lk rfl)) rfl ?_
      refine Ops.u (Dtu.asg (lk rfl)) rfl ?_
      refine Ops.nil ?_
      refine Then.next ?_
      refine Body.ret ?_
      (refine ⟨.inr rfl, _, pk [] rfl, bool_eq ?_, rfl⟩; show _ ↔ decide ((View.mk a.v.rows a.v.cols a.v.cells a.v.row a.v.col a.v.vis = View.mk b.v.rows b.v.cols b.v.cells b.v.row b.v.col b.v.vis) ∧ a.title.toList = b.title.toList ∧ (a.clip.toList = b.clip.toList ∧ a.clips = b.clips) ∧ a.bells = b.bells) = true; simp [*] <;> simp_all)
  · refine Ops.gn rfl rfl rfl rfl rfl ?_
    refine Ops.gn rfl rfl rfl rfl rfl ?_
    refine Ops.gn rfl rfl rfl rfl rfl ?_
    refine Ops.gn rfl rfl rfl rfl rfl ?_
    refine Ops.gn rfl rfl rfl rfl rfl ?_
    refine Ops.u (Dtu.pickF (lk rfl) (lk rfl)) rfl ?_
    refine Ops.u (Dtu.mv (lk rfl)) rfl ?_
    refine Ops.gn rfl rfl rfl rfl rfl ?_
    refine Ops.gn rfl rfl rfl rfl rfl ?_
    refine Ops.gn rfl rfl rfl rfl rfl ?_
    refine Ops.gn rfl rfl rfl rfl rfl ?_
    refine Ops.gn rfl rfl rfl rfl rfl ?_
    refine Ops.u (Dtu.pickF (lk rfl) (lk rfl)) rfl ?_
    refine Ops.u (Dtu.mv (lk rfl)) rfl ?_
    refine Ops.gn rfl rfl rfl rfl rfl ?_
    refine Ops.gn rfl rfl rfl rfl rfl ?_
    refine Ops.gn rfl rfl rfl rfl rfl ?_
    refine Ops.gn rfl rfl rfl rfl rfl ?_
    refine Ops.gn rfl rfl rfl rfl rfl ?_
    refine Ops.u (Dtu.pickF (lk rfl) (lk rfl)) rfl ?_
    refine Ops.u (Dtu.mv (lk rfl)) rfl ?_
    refine Ops.gn rfl rfl rfl rfl rfl ?_
    refine Ops.gn rfl rfl rfl rfl rfl ?_
    refine Ops.gn rfl rfl rfl rfl rfl ?_
    refine Ops.gn rfl rfl rfl rfl rfl ?_
    refine Ops.gn rfl rfl rfl rfl rfl ?_
    refine Ops.u (Dtu.pickF (lk rfl) (lk rfl)) rfl ?_
    refine Ops.u (Dtu.asg (lk rfl)) rfl ?_
    refine Ops.nil ?_
    refine Then.next ?_
    refine Body.ret ?_
    (refine ⟨.inr rfl, _, pk [] rfl, bool_eq ?_, rfl⟩; show _ ↔ decide ((View.mk a.v.rows a.v.cols a.v.cells a.v.row a.v.col a.v.vis = View.mk b.v.rows b.v.cols b.v.cells b.v.row b.v.col b.v.vis) ∧ a.title.toList = b.title.toList ∧ (a.clip.toList = b.clip.toList ∧ a.clips = b.clips) ∧ a.bells = b.bells) = true; simp [*] <;> simp_all)
theorem rfield_ok (E : Env) (t : Int) (s : Value) (d : List Int) (m : Nat) (h : Sl E [] 1 s m (d.map (.int .u8))) (hm : d.length = m) (hn : m ≤ 100000) : Does Try.prog 87 #[.int .u8 t, s] E [] fun r H' => ∃ s', s' = r ∧ H' = [osl 5 1 s' (fldB t d).length ((fldB t d).map (.int .u8))] := by
  subst hm
  have hz := sizeS_le (d.length : Int)
  refine Does.go (args := [.int .u8 t, s]) _ _ Try.func87 rfl Try.ntmps87 rfl rfl ?_
  refine Body.seq ?_
  refine Body.region ?_
  refine Ops.u (Dtu.asg (lk rfl)) rfl ?_
  refine Ops.nil ?_
  refine Then.next ?_
  refine Body.seq ?_
  refine Body.region ?_
  refine Ops.u (Dtu.mv (lk rfl)) rfl ?_
  refine Ops.s (Stp.buildSliceO Try.underlying32 ty5 (by decide) (by decide) (lkp rfl) rfl rfl rfl (by decide) (fun v7 => ?_)) rfl
  refine Ops.u (Dtu.asg (lk rfl)) rfl ?_
  refine Ops.nil ?_
  refine Then.next ?_
  refine Body.seq ?_
  refine Body.region ?_
  refine Ops.u (Dtu.mv (lk rfl)) rfl ?_
  refine Ops.u (Dtu.mv (lk rfl)) rfl ?_
  refine Ops.u (Dtu.lenS Try.underlying32 (Sl.up h) (lk rfl)) rfl ?_
  refine Ops.u (Dtu.cvt Try.underlying3 Try.underlying75 (lk rfl) (wu64 (by omega) (by omega))) rfl ?_
  refine Ops.s (Stp.call rfl Try.call63 (lks rfl) (fun E' le hat => rput_ok E' _ (by omega) (by omega)) ?_) rfl
  rintro _ _ ⟨sp12, rfl, rfl⟩
  refine Ops.s (Stp.append 1 Try.underlying32 ty5 rfl rfl (lk rfl) (lk rfl) (Sl.osl 0 rfl) (by first | rfl | exact all_map (fun _ => rfl) _ | exact all_flat (fun _ => rfl) _) (by omega) (by omega) (fun v13 => ?_)) rfl
  refine Ops.u (Dtu.asg (lk rfl)) rfl ?_
  refine Ops.nil ?_
  refine Then.next ?_
  refine Body.seq ?_
  refine Body.region ?_
  refine Ops.u (Dtu.mv (lk rfl)) rfl ?_
  refine Ops.u (Dtu.mv (lk rfl)) rfl ?_
  refine Ops.s (Stp.append 1 Try.underlying32 ty5 rfl rfl (lk rfl) (lk rfl) (Sl.up h) (by first | rfl | exact all_map (fun _ => rfl) _ | exact all_flat (fun _ => rfl) _) (by omega) (by omega) (fun v16 => ?_)) rfl
  refine Ops.u (Dtu.asg (lk rfl)) rfl ?_
  refine Ops.nil ?_
  refine Then.next ?_
  refine Body.ret ?_
  refine ⟨.inr rfl, _, pk [1] rfl, v16, rfl, ?_⟩
  simp [fldB, putL_len, Nat.add_assoc, Nat.add_comm, Nat.add_left_comm]
end Go.Proofs.Ytijjjdljdjnbaaa
end
section
/- The document's changes. -/
namespace Go.Proofs.Ytijjjdljdjnbaaa
set_option maxRecDepth 100000
set_option linter.unusedVariables false
set_option linter.unusedSimpArgs false
open Go.Sx

set_option maxHeartbeats 3200000 in
theorem rdiff22_ok (E : Env) (a b : Stt) (s t : Value) (ha : a.v.rhas E [] s) (hb : b.v.rhas E [] t) (ka : a.ok = true) (kb : b.ok = true) (la : ∀ c ∈ a.v.cells, c.Fl) (lb : ∀ c ∈ b.v.cells, c.Fl) (hc : 0 ≤ b.clips) (hbe : 0 ≤ b.bells) : Does Try.prog 46 #[a.val s, b.val t] E [] fun r H' => ∃ s', s' = r ∧ H' = [osl 5 1 s' (sdifB a b).length ((sdifB a b).map (.int .u8))] := by
  obtain ⟨⟨ar, ac, al, ao, aq, av⟩, at1, ap, an, ab⟩ := a
  obtain ⟨⟨br, bc, bl, bo, bq, bv⟩, bt, bp, bn, bb⟩ := b
  unfold View.rhas at ha hb
  obtain ⟨kav, _⟩ := Stt.ok_fits ka
  obtain ⟨kbv, t1, t2, t3, t4⟩ := Stt.ok_fits kb
  dsimp only at ha hb kav kbv t1 t2 t3 t4 la lb hc hbe
  refine Does.pure ha.isSl fun hs => ?_
  obtain ⟨sa, sm, sc, rfl⟩ := hs
  refine Does.pure hb.isSl fun hs => ?_
  obtain ⟨ta, tm, tc, rfl⟩ := hs
  have hz1 := sizeS_le bn
  have hz2 := sizeS_le bb
  have hdl := difB_most kav kbv
  have hB : sdifB ⟨⟨ar, ac, al, ao, aq, av⟩, at1, ap, an, ab⟩ ⟨⟨br, bc, bl, bo, bq, bv⟩, bt, bp, bn, bb⟩ = ((fldB 1 (difB ⟨ar, ac, al, ao, aq, av⟩ ⟨br, bc, bl, bo, bq, bv⟩) ++ (if at1.toList ≠ bt.toList then fldB 2 (numsOf bt) else [])) ++ (if ap.toList ≠ bp.toList ∨ an ≠ bn then fldB 3 (putL bn ++ numsOf bp) else [])) ++ (if ab ≠ bb then fldB 4 (putL bb) else []) := by
    simp only [sdifB, sdifL, List.flatMap_append]
    congr 1
    · congr 1
      · congr 1
        · simp
        · split <;> simp
      · by_cases h1 : ap.toList = bp.toList <;> by_cases h2 : an = bn <;> simp [h1, h2]
    · split <;> simp
  have fl : ∀ (t : Int) (d : List Int), (fldB t d).length ≤ 9 + d.length := by
    intro t d; have := sizeS_le (d.length : Int); simp [fldB, putL_len]; omega
  have n1 := numsOf_len bt
  have n2 := numsOf_len bp
  have n3 := putL_len bn
  have n4 := putL_len bb
  have f1 := fl 1 (difB ⟨ar, ac, al, ao, aq, av⟩ ⟨br, bc, bl, bo, bq, bv⟩)
  have f2 := fl 2 (numsOf bt)
  have f3 := fl 3 (putL bn ++ numsOf bp)
  have f4 := fl 4 (putL bb)
  rw [List.length_append] at f3
  have hR := fun (E' : Env) (le : Env.Le E E') => rdiff_ok E' ⟨ar, ac, al, ao, aq, av⟩ ⟨br, bc, bl, bo, bq, bv⟩ _ _ (Sl.mono ha le) (Sl.mono hb le) kav kbv la lb
  rw [hB]
  generalize difB ⟨ar, ac, al, ao, aq, av⟩ ⟨br, bc, bl, bo, bq, bv⟩ = D at *
  refine Does.go (args := [.agg (List.toArray [.int .i64 ar, .int .i64 ac, .slice sa sm sc, .int .i64 ao, .int .i64 aq, .bool av, .string at1, .string ap, .int .u64 an, .int .u64 ab]), .agg (List.toArray [.int .i64 br, .int .i64 bc, .slice ta tm tc, .int .i64 bo, .int .i64 bq, .bool bv, .string bt, .string bp, .int .u64 bn, .int .u64 bb])]) _ _ Try.func46 rfl Try.ntmps46 rfl rfl ?_
  refine Body.seq ?_
  refine Body.region ?_
  refine Ops.s (Stp.box (lk rfl) rfl (fun b2 => ?_)) rfl
  refine Ops.s (Stp.box (lk rfl) rfl (fun b3 => ?_)) rfl
  refine Ops.u (Dtu.asg (lk rfl)) rfl ?_
  refine Ops.nil ?_
  refine Then.next ?_
  refine Body.seq ?_
  refine Body.region ?_
  refine Ops.u (Dtu.fld fa80_0 (lk rfl)) rfl ?_
  refine Ops.d (Det.lda Try.isAgg30 Try.sizeOf30 (lk rfl) (Rds.ow (m := 6) 1 rfl rfl) rfl) rfl ?_
  refine Ops.u (Dtu.fld fa80_0 (lk rfl)) rfl ?_
  refine Ops.d (Det.lda Try.isAgg30 Try.sizeOf30 (lk rfl) (Rds.ow (m := 6) 0 rfl rfl) rfl) rfl ?_
  refine Ops.s (Stp.call rfl Try.call19 (lks rfl) (fun E' le hat => hR E' le) ?_) rfl
  rintro _ _ ⟨s10, rfl, rfl⟩
  refine Ops.s (Stp.call rfl Try.call87 (lks rfl) (fun E' le hat => rfield_ok E' _ _ _ _ (by first | exact Sl.mono (by assumption) le | exact Sl.at (hat _ (.head _)) | exact Sl.at (hat _ (.tail _ (.head _))) | exact Sl.atR (hat _ (.head _))) (by first | rfl | exact numsOf_len _ | exact putL_len _) (by first | omega | (dsimp only; omega))) ?_) rfl
  rintro _ _ ⟨s11, rfl, rfl⟩
  refine Ops.u (Dtu.asg (lk rfl)) rfl ?_
  refine Ops.nil ?_
  refine Then.next ?_
  generalize hL1 : fldB 1 D = L1 at *
  have hown : ∀ (O : Value) (L : List Int), True := fun _ _ => trivial
  refine Body.seqJ (γ := Value) rfl (fun g => [(5, g)]) (fun g => [osl 5 1 g (L1 ++ (if at1.toList ≠ bt.toList then fldB 2 (numsOf bt) else [])).length ((L1 ++ (if at1.toList ≠ bt.toList then fldB 2 (numsOf bt) else [])).map (.int .u8)), own b3 [.int .i64 br, .int .i64 bc, .slice ta tm tc, .int .i64 bo, .int .i64 bq, .bool bv, .string bt, .string bp, .int .u64 bn, .int .u64 bb] 80, own b2 [.int .i64 ar, .int .i64 ac, .slice sa sm sc, .int .i64 ao, .int .i64 aq, .bool av, .string at1, .string ap, .int .u64 an, .int .u64 ab] 80]) (fun _ => True) ?_ ?_
  · refine Body.seq ?_
    refine Body.region ?_
    refine Ops.u (Dtu.fld fa80_1 (lk rfl)) rfl ?_
    refine Ops.d (Det.ld Try.isAgg9 (lk rfl) (Rd.ow 3 rfl rfl)) rfl ?_
    refine Ops.u (Dtu.fld fa80_1 (lk rfl)) rfl ?_
    refine Ops.d (Det.ld Try.isAgg9 (lk rfl) (Rd.ow 2 rfl rfl)) rfl ?_
    refine Ops.u (Dtu.neStr (lk rfl) (lk rfl)) rfl ?_
    refine Ops.nil ?_
    refine Then.next ?_
    refine Body.condP (lk rfl) (fun c16 => ?_) (fun c16 => ?_)
    · rw [if_pos (by assumption)]
      refine Body.region ?_
      refine Ops.u (Dtu.mv (lk rfl)) rfl ?_
      refine Ops.u (Dtu.fld fa80_1 (lk rfl)) rfl ?_
      refine Ops.d (Det.ld Try.isAgg9 (lk rfl) (Rd.ow 2 rfl rfl)) rfl ?_
      refine Ops.s (Stp.cvtSB Try.underlying9 Try.underlying32 Try.underlying5 (lk rfl) (by first | omega | (dsimp only; omega)) (fun v20 => ?_)) rfl
      refine Ops.s (Stp.call rfl Try.call87 (lks rfl) (fun E' le hat => rfield_ok E' _ _ _ _ (by first | exact Sl.mono (by assumption) le | exact Sl.at (hat _ (.head _)) | exact Sl.at (hat _ (.tail _ (.head _))) | exact Sl.atR (hat _ (.head _))) (by first | rfl | exact numsOf_len _ | exact putL_len _) (by first | omega | (dsimp only; omega))) ?_) rfl
      rintro _ _ ⟨s21, rfl, rfl⟩
      refine Ops.s (Stp.append 2 Try.underlying32 ty5 rfl rfl (lk rfl) (lk rfl) (Sl.osl 0 rfl) (by first | rfl | exact all_map (fun _ => rfl) _ | exact all_flat (fun _ => rfl) _) (by omega) (by omega) (fun v22 => ?_)) rfl
      refine Ops.u (Dtu.asg (lk rfl)) rfl ?_
      refine Ops.nil ?_
      refine Joint.goK [2, 3, 3] v22 rfl rfl rfl ⟨rfl, trivial⟩ rfl (by rw [List.length_append, List.map_append]) trivial
    · rw [if_neg (by assumption)]
      refine Body.skip ?_
      refine Joint.goK [0, 1, 1] s11 rfl rfl rfl ⟨rfl, trivial⟩ rfl (by rw [List.append_nil]) trivial
  · rintro O u _
    have hm2 : (L1 ++ (if at1.toList ≠ bt.toList then fldB 2 (numsOf bt) else [])).length ≤ L1.length + 200 := by split <;> simp <;> omega
    generalize L1 ++ (if at1.toList ≠ bt.toList then fldB 2 (numsOf bt) else []) = L2 at *
    skip
    generalize hC : (L2 ++ (if ap.toList ≠ bp.toList ∨ an ≠ bn then fldB 3 (putL bn ++ numsOf bp) else [])) = L3
    have hm3 : L3.length ≤ L2.length + 400 := by rw [← hC]; split <;> simp only [List.length_append, List.length_nil] <;> omega
    refine Body.seqJ (γ := Value) rfl (fun g => [(5, g)]) (fun g => [osl 5 1 g L3.length (L3.map (.int .u8)), own b3 [.int .i64 br, .int .i64 bc, .slice ta tm tc, .int .i64 bo, .int .i64 bq, .bool bv, .string bt, .string bp, .int .u64 bn, .int .u64 bb] 80, own b2 [.int .i64 ar, .int .i64 ac, .slice sa sm sc, .int .i64 ao, .int .i64 aq, .bool av, .string at1, .string ap, .int .u64 an, .int .u64 ab] 80]) (fun _ => True) ?_ ?_
    · by_cases h1 : ap.toList ≠ bp.toList
      · have hC2 : L2 ++ fldB 3 (putL bn ++ numsOf bp) = L3 := by rw [← hC, if_pos (.inl h1)]
        refine Body.seq ?_
        refine Body.region ?_
        refine Ops.u (Dtu.fld fa80_2 (lk rfl)) rfl ?_
        refine Ops.d (Det.ld Try.isAgg9 (lk rfl) (Rd.ow 2 rfl rfl)) rfl ?_
        refine Ops.u (Dtu.fld fa80_2 (lk rfl)) rfl ?_
        refine Ops.d (Det.ld Try.isAgg9 (lk rfl) (Rd.ow 1 rfl rfl)) rfl ?_
        refine Ops.u (Dtu.neStr (lk rfl) (lk rfl)) rfl ?_
        refine Ops.u (Dtu.mv (lk rfl)) rfl ?_
        refine Ops.decP 28 rfl (fun _ => ?_) (fun hn => absurd (by first | omega | assumption | decide) hn)
        refine Ops.gn rfl rfl rfl rfl rfl ?_
        refine Ops.gn rfl rfl rfl rfl rfl ?_
        refine Ops.gn rfl rfl rfl rfl rfl ?_
        refine Ops.gn rfl rfl rfl rfl rfl ?_
        refine Ops.gn rfl rfl rfl rfl rfl ?_
        refine Ops.u (Dtu.pickT (lk rfl) (lk rfl)) rfl ?_
        refine Ops.nil ?_
        refine Then.next ?_
        refine Body.condT (lk rfl) ?_
        refine Body.draw mixed ?_
        refine AB.u 0 rfl (by decide +kernel) (Dtu.mv (lk rfl)) rfl ?_
        refine AB.u 1 rfl (by decide +kernel) (Dtu.fld fa80_3 (lk rfl)) rfl ?_
        refine AB.d 2 rfl (by decide +kernel) rfl (Det.ld Try.isAgg75 (lk rfl) (Rd.ow 1 rfl rfl)) rfl ?_
        refine AB.u 4 rfl (by decide +kernel) (Dtu.fld fa80_2 (lk rfl)) rfl ?_
        refine AB.d 5 rfl (by decide +kernel) rfl (Det.ld Try.isAgg9 (lk rfl) (Rd.ow 1 rfl rfl)) rfl ?_
        refine AB.s 3 rfl (by decide +kernel) (by decide +kernel) (Stp.call rfl Try.call63 (lks rfl) (fun E' le hat => rput_ok E' _ (by omega) (by omega)) ?_) rfl
        rintro _ _ ⟨sp38, rfl, rfl⟩
        refine AB.s 6 rfl (by decide +kernel) (by decide +kernel) (Stp.appendStr 0 Try.underlying32 Try.underlying9 ty5 rfl rfl (lk rfl) (lk rfl) (by first | omega | (dsimp only; omega)) (by first | omega | (dsimp only; omega)) (fun v41 => ?_)) rfl
        refine AB.s 7 rfl (by decide +kernel) (by decide +kernel) (Stp.call rfl Try.call87 (lks rfl) (fun E' le hat => rfield_ok E' 3 _ (putL bn ++ numsOf bp) (sizeS bn + bp.size) (by rw [List.map_append]; exact Sl.at (t := 5) (hat _ (.head _))) (by rw [List.length_append]; omega) (by omega)) ?_) rfl
        rintro _ _ ⟨s42, rfl, rfl⟩
        refine AB.s 8 rfl (by decide +kernel) (by decide +kernel) (Stp.append 2 Try.underlying32 ty5 rfl rfl (lk rfl) (lk rfl) (Sl.osl 0 rfl) (by first | rfl | exact all_map (fun _ => rfl) _ | exact all_flat (fun _ => rfl) _) (by omega) (by omega) (fun v43 => ?_)) rfl
        refine AB.u 9 rfl (by decide +kernel) (Dtu.asg (lk rfl)) rfl ?_
        refine AB.done (by decide +kernel) ?_
        refine Joint.goK [2, 2, 2] v43 rfl rfl rfl ⟨rfl, trivial⟩ rfl (by rw [← hC2, List.length_append, List.map_append]) trivial
      · by_cases h2 : an ≠ bn
        · have hC2 : L2 ++ fldB 3 (putL bn ++ numsOf bp) = L3 := by rw [← hC, if_pos (.inr h2)]
          refine Body.seq ?_
          refine Body.region ?_
          refine Ops.u (Dtu.fld fa80_2 (lk rfl)) rfl ?_
          refine Ops.d (Det.ld Try.isAgg9 (lk rfl) (Rd.ow 2 rfl rfl)) rfl ?_
          refine Ops.u (Dtu.fld fa80_2 (lk rfl)) rfl ?_
          refine Ops.d (Det.ld Try.isAgg9 (lk rfl) (Rd.ow 1 rfl rfl)) rfl ?_
          refine Ops.u (Dtu.neStr (lk rfl) (lk rfl)) rfl ?_
          refine Ops.u (Dtu.mv (lk rfl)) rfl ?_
          refine Ops.decP 28 rfl (fun hy => absurd hy (by first | omega | assumption | decide)) (fun _ => ?_)
          refine Ops.gu rfl rfl rfl (Dtu.fld fa80_3 (lk rfl)) rfl ?_
          refine Ops.gd rfl rfl rfl (Det.ld Try.isAgg75 (lk rfl) (Rd.ow 2 rfl rfl)) rfl ?_
          refine Ops.gu rfl rfl rfl (Dtu.fld fa80_3 (lk rfl)) rfl ?_
          refine Ops.gd rfl rfl rfl (Det.ld Try.isAgg75 (lk rfl) (Rd.ow 1 rfl rfl)) rfl ?_
          refine Ops.gu rfl rfl rfl (Dtu.neq (lk rfl) (lk rfl)) rfl ?_
          refine Ops.u (Dtu.pickF (lk rfl) (lk rfl)) rfl ?_
          refine Ops.nil ?_
          refine Then.next ?_
          refine Body.condP (lk rfl) (fun _ => ?_) (fun hn => absurd (by first | omega | assumption | decide) hn)
          refine Body.draw mixed ?_
          refine AB.u 0 rfl (by decide +kernel) (Dtu.mv (lk rfl)) rfl ?_
          refine AB.u 1 rfl (by decide +kernel) (Dtu.fld fa80_3 (lk rfl)) rfl ?_
          refine AB.d 2 rfl (by decide +kernel) rfl (Det.ld Try.isAgg75 (lk rfl) (Rd.ow 1 rfl rfl)) rfl ?_
          refine AB.u 4 rfl (by decide +kernel) (Dtu.fld fa80_2 (lk rfl)) rfl ?_
          refine AB.d 5 rfl (by decide +kernel) rfl (Det.ld Try.isAgg9 (lk rfl) (Rd.ow 1 rfl rfl)) rfl ?_
          refine AB.s 3 rfl (by decide +kernel) (by decide +kernel) (Stp.call rfl Try.call63 (lks rfl) (fun E' le hat => rput_ok E' _ (by omega) (by omega)) ?_) rfl
          rintro _ _ ⟨sp38, rfl, rfl⟩
          refine AB.s 6 rfl (by decide +kernel) (by decide +kernel) (Stp.appendStr 0 Try.underlying32 Try.underlying9 ty5 rfl rfl (lk rfl) (lk rfl) (by first | omega | (dsimp only; omega)) (by first | omega | (dsimp only; omega)) (fun v41 => ?_)) rfl
          refine AB.s 7 rfl (by decide +kernel) (by decide +kernel) (Stp.call rfl Try.call87 (lks rfl) (fun E' le hat => rfield_ok E' 3 _ (putL bn ++ numsOf bp) (sizeS bn + bp.size) (by rw [List.map_append]; exact Sl.at (t := 5) (hat _ (.head _))) (by rw [List.length_append]; omega) (by omega)) ?_) rfl
          rintro _ _ ⟨s42, rfl, rfl⟩
          refine AB.s 8 rfl (by decide +kernel) (by decide +kernel) (Stp.append 2 Try.underlying32 ty5 rfl rfl (lk rfl) (lk rfl) (Sl.osl 0 rfl) (by first | rfl | exact all_map (fun _ => rfl) _ | exact all_flat (fun _ => rfl) _) (by omega) (by omega) (fun v43 => ?_)) rfl
          refine AB.u 9 rfl (by decide +kernel) (Dtu.asg (lk rfl)) rfl ?_
          refine AB.done (by decide +kernel) ?_
          refine Joint.goK [2, 2, 2] v43 rfl rfl rfl ⟨rfl, trivial⟩ rfl (by rw [← hC2, List.length_append, List.map_append]) trivial
        · have hC2 : L2 = L3 := by rw [← hC, if_neg (by rintro (h | h) <;> contradiction), List.append_nil]
          refine Body.seq ?_
          refine Body.region ?_
          refine Ops.u (Dtu.fld fa80_2 (lk rfl)) rfl ?_
          refine Ops.d (Det.ld Try.isAgg9 (lk rfl) (Rd.ow 2 rfl rfl)) rfl ?_
          refine Ops.u (Dtu.fld fa80_2 (lk rfl)) rfl ?_
          refine Ops.d (Det.ld Try.isAgg9 (lk rfl) (Rd.ow 1 rfl rfl)) rfl ?_
          refine Ops.u (Dtu.neStr (lk rfl) (lk rfl)) rfl ?_
          refine Ops.u (Dtu.mv (lk rfl)) rfl ?_
          refine Ops.decP 28 rfl (fun hy => absurd hy (by first | omega | assumption | decide)) (fun _ => ?_)
          refine Ops.gu rfl rfl rfl (Dtu.fld fa80_3 (lk rfl)) rfl ?_
          refine Ops.gd rfl rfl rfl (Det.ld Try.isAgg75 (lk rfl) (Rd.ow 2 rfl rfl)) rfl ?_
          refine Ops.gu rfl rfl rfl (Dtu.fld fa80_3 (lk rfl)) rfl ?_
          refine Ops.gd rfl rfl rfl (Det.ld Try.isAgg75 (lk rfl) (Rd.ow 1 rfl rfl)) rfl ?_
          refine Ops.gu rfl rfl rfl (Dtu.neq (lk rfl) (lk rfl)) rfl ?_
          refine Ops.u (Dtu.pickF (lk rfl) (lk rfl)) rfl ?_
          refine Ops.nil ?_
          refine Then.next ?_
          refine Body.condP (lk rfl) (fun hy => absurd hy (by first | omega | assumption | decide)) (fun _ => ?_)
          refine Body.skip ?_
          subst hC2
          refine Joint.goK [0, 0, 0] O rfl rfl rfl ⟨rfl, trivial⟩ rfl rfl trivial
    · rintro O3 u3 _
      generalize hD4 : L3 ++ (if ab ≠ bb then fldB 4 (putL bb) else []) = L4
      refine Body.seqJ (γ := Value) rfl (fun g => [(5, g)]) (fun g => [osl 5 1 g L4.length (L4.map (.int .u8)), own b3 [.int .i64 br, .int .i64 bc, .slice ta tm tc, .int .i64 bo, .int .i64 bq, .bool bv, .string bt, .string bp, .int .u64 bn, .int .u64 bb] 80, own b2 [.int .i64 ar, .int .i64 ac, .slice sa sm sc, .int .i64 ao, .int .i64 aq, .bool av, .string at1, .string ap, .int .u64 an, .int .u64 ab] 80]) (fun _ => True) ?_ ?_
      · refine Body.seq ?_
        refine Body.region ?_
        refine Ops.u (Dtu.fld fa80_4 (lk rfl)) rfl ?_
        refine Ops.d (Det.ld Try.isAgg75 (lk rfl) (Rd.ow 2 rfl rfl)) rfl ?_
        refine Ops.u (Dtu.fld fa80_4 (lk rfl)) rfl ?_
        refine Ops.d (Det.ld Try.isAgg75 (lk rfl) (Rd.ow 1 rfl rfl)) rfl ?_
        refine Ops.u (Dtu.neq (lk rfl) (lk rfl)) rfl ?_
        refine Ops.nil ?_
        refine Then.next ?_
        refine Body.condP (lk rfl) (fun c48 => ?_) (fun c48 => ?_)
        · rw [if_pos (by assumption)] at hD4
          refine Body.region ?_
          refine Ops.u (Dtu.mv (lk rfl)) rfl ?_
          refine Ops.u (Dtu.fld fa80_4 (lk rfl)) rfl ?_
          refine Ops.d (Det.ld Try.isAgg75 (lk rfl) (Rd.ow 1 rfl rfl)) rfl ?_
          refine Ops.s (Stp.call rfl Try.call63 (lks rfl) (fun E' le hat => rput_ok E' _ (by omega) (by omega)) ?_) rfl
          rintro _ _ ⟨sp52, rfl, rfl⟩
          refine Ops.s (Stp.call rfl Try.call87 (lks rfl) (fun E' le hat => rfield_ok E' _ _ _ _ (by first | exact Sl.mono (by assumption) le | exact Sl.at (hat _ (.head _)) | exact Sl.at (hat _ (.tail _ (.head _))) | exact Sl.atR (hat _ (.head _))) (by first | rfl | exact numsOf_len _ | exact putL_len _) (by first | omega | (dsimp only; omega))) ?_) rfl
          rintro _ _ ⟨s53, rfl, rfl⟩
          refine Ops.s (Stp.append 2 Try.underlying32 ty5 rfl rfl (lk rfl) (lk rfl) (Sl.osl 0 rfl) (by first | rfl | exact all_map (fun _ => rfl) _ | exact all_flat (fun _ => rfl) _) (by omega) (by omega) (fun v54 => ?_)) rfl
          refine Ops.u (Dtu.asg (lk rfl)) rfl ?_
          refine Ops.nil ?_
          refine Joint.goK [2, 2, 2] v54 rfl rfl rfl ⟨rfl, trivial⟩ rfl (by rw [← hD4, List.length_append, List.map_append]) trivial
        · rw [if_neg (by assumption), List.append_nil] at hD4
          subst hD4
          refine Body.skip ?_
          refine Joint.goK [0, 0, 0] O3 rfl rfl rfl ⟨rfl, trivial⟩ rfl rfl trivial
      · rintro O4 u4 _
        refine Body.seq ?_
        refine Body.region ?_
        refine Ops.u (Dtu.mv (lk rfl)) rfl ?_
        refine Ops.u (Dtu.asg (lk rfl)) rfl ?_
        refine Ops.nil ?_
        refine Then.next ?_
        refine Body.ret ?_
        exact ⟨.inr rfl, _, pk [0] rfl, O4, rfl, rfl⟩
end Go.Proofs.Ytijjjdljdjnbaaa
end
section
/- The document's states: Apply, the plain law. -/
namespace Go.Proofs.Ytijjjdljdjnbaaa
set_option maxRecDepth 100000
set_option linter.unusedVariables false
set_option linter.unusedSimpArgs false
open Go.Sx

/-- what the document's Apply does with a field -/
def rstep (a : Stt) (f : TF) (x : Stt × Bool) : Option (Stt × Bool) :=
  if f.1 = 1 then some (⟨avV a.v f.2, x.1.title, x.1.clip, x.1.clips, x.1.bells⟩, avK a.v f.2)
  else if f.1 = 2 then some (⟨x.1.v, strOfNums f.2, x.1.clip, x.1.clips, x.1.bells⟩, x.2)
  else if f.1 = 3 then (if (getS f.2 0).2.2 ≠ 0 then none else some (⟨x.1.v, x.1.title, strOfNums (f.2.drop (getS f.2 0).2.1.toNat), (getS f.2 0).1, x.1.bells⟩, x.2))
  else if f.1 = 4 then (if (getS f.2 0).2.2 ≠ 0 then none else some (⟨x.1.v, x.1.title, x.1.clip, x.1.clips, (getS f.2 0).1⟩, x.2))
  else some x
def rfold (a : Stt) : List TF → Option (Stt × Bool)
  | [] => some (a, false)
  | f :: l => (rfold a l).bind (rstep a f)
end Go.Proofs.Ytijjjdljdjnbaaa
end
section
/- The document's states: Apply, the walk. -/
namespace Go.Proofs.Ytijjjdljdjnbaaa
set_option maxRecDepth 100000
set_option linter.unusedVariables false
set_option linter.unusedSimpArgs false
open Go.Sx

/-- where the document's Apply stands -/
structure RA where
  k : Nat
  x : Stt
  f : Bool
  ap : Bool
  a : Option Addr
  m : Nat
  c : Nat
  wa : Option Addr
  wm : Nat
  wc : Nat
  l : List Cell
structure RA.Ok (a : Stt) (rs : List TF) (g : RA) : Prop where
  k : g.k ≤ rs.length
  r : rfold a (rs.drop g.k) = some (g.x, g.f)
  yes : g.ap = true → g.a = g.wa ∧ g.m = g.wm ∧ g.c = g.wc ∧ g.l = g.x.v.cells
  no : g.ap = false → g.f = false
  fl : ∀ c ∈ g.x.v.cells, c.Fl
  cols : ∀ c ∈ g.x.v.cells, c.Cols
  c0 : 0 ≤ g.x.clips
  b0 : 0 ≤ g.x.bells
end Go.Proofs.Ytijjjdljdjnbaaa
end
section
/- RegDiffs: what it computes. -/
namespace Go.Proofs.Ytijjjdljdjnbaaa
set_option maxRecDepth 100000
set_option linter.unusedVariables false
set_option linter.unusedSimpArgs false
open Go.Sx

def sdifW (a b : Stt) : List Int := if a.ok && b.ok then sdifB a b else []
def sdifE (a b : Stt) : Int := if a.ok && b.ok then 0 else 3
theorem sdiff_any (E : Env) (a b : Stt) (s t : Value) (ha : a.v.has E [] s) (hb : b.v.has E [] t) (fb : b.Fine) : Does Try.prog 41 #[a.val s, b.val t] E [] fun r H' => ∃ s', r = .tuple #[s', .int .i64 (sdifE a b)] ∧ H' = [osl 5 1 s' (sdifW a b).length ((sdifW a b).map (.int .u8))] := by
  cases hk : a.ok && b.ok with
  | true =>
    have e1 : sdifW a b = sdifB a b := by simp [sdifW, hk]
    have e2 : sdifE a b = 0 := by simp [sdifE, hk]
    rw [e1, e2]
    have h2 : a.ok = true ∧ b.ok = true := by simpa using hk
    exact sdiff_ok E a b s t ha hb h2.1 h2.2 fb.c0 fb.b0
  | false =>
    have e1 : sdifW a b = [] := by simp [sdifW, hk]
    have e2 : sdifE a b = 3 := by simp [sdifE, hk]
    rw [e1, e2]
    intro w s0
    refine (sdiff_no E a b s t ha hb hk w s0).mono ?_
    rintro e w' ⟨r, H', he, ⟨rfl, rfl⟩, s'⟩
    exact ⟨_, _, he, ⟨_, rfl, rfl⟩, osl_nil s'⟩
set_option maxHeartbeats 3200000 in
theorem sdiffs_ok (E : Env) (v o : Stt) (s t : Value) (hv : v.v.has E [] s) (ho : o.v.has E [] t) (fv : v.Fine) (fo : o.Fine) (gv : ∀ c ∈ v.v.cells, c.Cols) (go : ∀ c ∈ o.v.cells, c.Cols) :
    Does Try.prog 11 #[v.val s, o.val t] E [] fun r H' => r = .bool true ∧ H' = [] := by
  have fvl := fv.fl
  have fol := fo.fl
  obtain ⟨⟨vr, vc, vcs, vo, vl, vv⟩, vt, vp, vn, vb⟩ := v
  obtain ⟨⟨wr, wc, wcs, wo, wl, wv⟩, wt, wp, wn, wb⟩ := o
  unfold View.has at hv ho
  dsimp only at hv ho gv go fvl fol
  refine Does.pure hv.isSl fun hsl => ?_
  obtain ⟨sa, sm, sc, rfl⟩ := hsl
  refine Does.pure ho.isSl fun hsl => ?_
  obtain ⟨ta, tm, tc, rfl⟩ := hsl
  have hD := fun (E' : Env) (le : Env.Le E E') => sdiff_any E' (Stt.mk (View.mk vr vc vcs vo vl vv) vt vp vn vb) (Stt.mk (View.mk wr wc wcs wo wl wv) wt wp wn wb) (.slice sa sm sc) (.slice ta tm tc) (Sl.mono hv le) (Sl.mono ho le) fo
  refine Does.go (args := [.agg (List.toArray [.int .i64 vr, .int .i64 vc, .slice sa sm sc, .int .i64 vo, .int .i64 vl, .bool vv, .string vt, .string vp, .int .u64 vn, .int .u64 vb]), .agg (List.toArray [.int .i64 wr, .int .i64 wc, .slice ta tm tc, .int .i64 wo, .int .i64 wl, .bool wv, .string wt, .string wp, .int .u64 wn, .int .u64 wb])]) _ _ Try.func11 rfl Try.ntmps11 rfl rfl ?_
  refine Body.seq ?_
  refine Body.region ?_
  refine Ops.s (Stp.box (lk rfl) rfl (fun b2 => ?_)) rfl
  refine Ops.s (Stp.box (lk rfl) rfl (fun b3 => ?_)) rfl
  refine Ops.u (Dtu.asg (lk rfl)) rfl ?_
  refine Ops.nil ?_
  refine Then.next ?_
  refine Body.seq ?_
  refine Body.seq ?_
  refine Body.region ?_
  refine Ops.d (Det.lda Try.isAgg77 Try.sizeOf77 (lk rfl) (Rds.ow (m := 10) 1 rfl rfl) rfl) rfl ?_
  refine Ops.s (Stp.call rfl Try.call38 (lks rfl) (fun E' le hat => great_ok E' ⟨⟨_, _, _, _, _, _⟩, _, _, _, _⟩ _ (Sl.mono (by assumption) le)) ?_) rfl
  rintro _ _ ⟨rfl, rfl⟩
  refine Ops.u (Dtu.mv (lk rfl)) rfl ?_
  refine Ops.decP 11 rfl (fun c11 => ?_) (fun c11 => ?_)
  · refine Ops.gn rfl rfl rfl rfl rfl ?_
    refine Ops.gn rfl rfl rfl rfl rfl ?_
    refine Ops.u (Dtu.pickT (lk rfl) (lk rfl)) rfl ?_
    refine Ops.nil ?_
    refine Then.next ?_
    refine Body.condT (lk rfl) ?_
    refine Body.seq ?_
    refine Body.region ?_
    refine Ops.s (Stp.call rfl Try.call39 (lks rfl) (fun E' le hat => alive22_ok E') ?_) rfl
    rintro _ _ ⟨rfl, rfl⟩
    refine Ops.u (Dtu.asg (lk rfl)) rfl ?_
    refine Ops.nil ?_
    refine Then.next ?_
    refine Body.ret ?_
    refine Then.ret ?_
    exact ⟨.inr rfl, _, pk [] rfl, rfl, rfl⟩
  · refine Ops.gd rfl rfl rfl (Det.lda Try.isAgg77 Try.sizeOf77 (lk rfl) (Rds.ow (m := 10) 0 rfl rfl) rfl) rfl ?_
    refine Ops.gs rfl rfl rfl (Stp.call rfl Try.call38 (lks rfl) (fun E' le hat => great_ok E' ⟨⟨_, _, _, _, _, _⟩, _, _, _, _⟩ _ (Sl.mono (by assumption) le)) ?_) rfl
    rintro _ _ ⟨rfl, rfl⟩
    refine Ops.u (Dtu.pickF (lk rfl) (lk rfl)) rfl ?_
    refine Ops.nil ?_
    refine Then.next ?_
    refine Body.condP (lk rfl) (fun c14 => ?_) (fun c14 => ?_)
    · refine Body.seq ?_
      refine Body.region ?_
      refine Ops.s (Stp.call rfl Try.call39 (lks rfl) (fun E' le hat => alive22_ok E') ?_) rfl
      rintro _ _ ⟨rfl, rfl⟩
      refine Ops.u (Dtu.asg (lk rfl)) rfl ?_
      refine Ops.nil ?_
      refine Then.next ?_
      refine Body.ret ?_
      refine Then.ret ?_
      exact ⟨.inr rfl, _, pk [] rfl, rfl, rfl⟩
    · have n1 : vcs.length ≤ 1000 := by unfold Stt.great at *; dsimp only at *; omega
      have n2 : wcs.length ≤ 1000 := by unfold Stt.great at *; dsimp only at *; omega
      refine Body.skip ?_
      refine Then.next ?_
      refine Body.seqJ (γ := (Nat × Nat) × (Option Addr × Nat × Nat) × (Option Addr × Nat × Nat)) rfl (fun g => [(5, .pointer (some ⟨g.1.1, 0, none⟩)), (6, .pointer (some ⟨g.1.2, 0, none⟩))])
        (fun g => [own g.1.1 [.int .i64 vr, .int .i64 vc, .slice g.2.1.1 g.2.1.2.1 g.2.1.2.2, .int .i64 vo, .int .i64 vl, .bool vv, .string vt, .string vp, .int .u64 vn, .int .u64 vb] 80, own g.1.2 [.int .i64 wr, .int .i64 wc, .slice g.2.2.1 g.2.2.2.1 g.2.2.2.2, .int .i64 wo, .int .i64 wl, .bool wv, .string wt, .string wp, .int .u64 wn, .int .u64 wb] 80,
          osl 65 11 (.slice g.2.1.1 g.2.1.2.1 g.2.1.2.2) vcs.length (vcs.flatMap Cell.renc), osl 65 11 (.slice g.2.2.1 g.2.2.2.1 g.2.2.2.2) wcs.length (wcs.flatMap Cell.renc),
          own b3 [.int .i64 wr, .int .i64 wc, .slice ta tm tc, .int .i64 wo, .int .i64 wl, .bool wv, .string wt, .string wp, .int .u64 wn, .int .u64 wb] 77, own b2 [.int .i64 vr, .int .i64 vc, .slice sa sm sc, .int .i64 vo, .int .i64 vl, .bool vv, .string vt, .string vp, .int .u64 vn, .int .u64 vb] 77]) (fun _ => True) ?_ ?_
      · refine Body.draw mixed ?_
        refine AB.d 0 rfl (by decide +kernel) rfl (Det.lda Try.isAgg77 Try.sizeOf77 (lk rfl) (Rds.ow (m := 10) 1 rfl rfl) rfl) rfl ?_
        refine AB.d 2 rfl (by decide +kernel) rfl (Det.lda Try.isAgg77 Try.sizeOf77 (lk rfl) (Rds.ow (m := 10) 0 rfl rfl) rfl) rfl ?_
        refine AB.more [1, 4, 5] (by decide +kernel) rfl ⟨?_, ?_, ?_, trivial⟩
        · refine ABI.s rfl (by decide +kernel) (Stp.call rfl Try.call40 (lks rfl) (fun E' le hat => as22_ok E' ⟨⟨_, _, _, _, _, _⟩, _, _, _, _⟩ _ (Sl.mono (by assumption) le) (by assumption) (by first | assumption | (dsimp only; omega))) ?_) rfl
          rintro _ _ ⟨xa17, xm17, xc17, rfl, rfl⟩
          refine AB.more [3, 4, 5] (by decide +kernel) rfl ⟨?_, ?_, ?_, trivial⟩
          · refine ABI.s rfl (by decide +kernel) (Stp.call rfl Try.call40 (lks rfl) (fun E' le hat => as22_ok E' ⟨⟨_, _, _, _, _, _⟩, _, _, _, _⟩ _ (Sl.mono (by assumption) le) (by assumption) (by first | assumption | (dsimp only; omega))) ?_) rfl
            rintro _ _ ⟨xa19, xm19, xc19, rfl, rfl⟩
            refine AB.more [4, 5] (by decide +kernel) rfl ⟨?_, ?_, trivial⟩
            · refine ABI.s rfl (by decide +kernel) (Stp.alloc ty80 (fun b5 => ?_)) rfl
              refine AB.s 5 rfl (by decide +kernel) (by decide +kernel) (Stp.alloc ty80 (fun b6 => ?_)) rfl
              refine AB.e 6 rfl (by decide +kernel) (by decide +kernel) (Stp.store 1 Try.sizeOf80 (lk rfl) (lk rfl) rfl rfl rfl rfl rfl rfl rfl ?_)
              refine AB.e 7 rfl (by decide +kernel) (by decide +kernel) (Stp.store 0 Try.sizeOf80 (lk rfl) (lk rfl) rfl rfl rfl rfl rfl rfl rfl ?_)
              refine AB.done (by decide +kernel) ?_
              refine Joint.goK [1, 0, 1, 0, 0, 0] ((b5, b6), (xa17, xm17, xc17), (xa19, xm19, xc19)) rfl rfl rfl ⟨rfl, rfl, trivial⟩ rfl rfl trivial
            · refine ABI.s rfl (by decide +kernel) (Stp.alloc ty80 (fun b6 => ?_)) rfl
              refine AB.s 4 rfl (by decide +kernel) (by decide +kernel) (Stp.alloc ty80 (fun b5 => ?_)) rfl
              refine AB.e 6 rfl (by decide +kernel) (by decide +kernel) (Stp.store 0 Try.sizeOf80 (lk rfl) (lk rfl) rfl rfl rfl rfl rfl rfl rfl ?_)
              refine AB.e 7 rfl (by decide +kernel) (by decide +kernel) (Stp.store 1 Try.sizeOf80 (lk rfl) (lk rfl) rfl rfl rfl rfl rfl rfl rfl ?_)
              refine AB.done (by decide +kernel) ?_
              refine Joint.goK [0, 0, 1, 0, 0, 0] ((b5, b6), (xa17, xm17, xc17), (xa19, xm19, xc19)) rfl rfl rfl ⟨rfl, rfl, trivial⟩ rfl rfl trivial
          · refine ABI.s rfl (by decide +kernel) (Stp.alloc ty80 (fun b5 => ?_)) rfl
            refine AB.more [3, 5] (by decide +kernel) rfl ⟨?_, ?_, trivial⟩
            · refine ABI.s rfl (by decide +kernel) (Stp.call rfl Try.call40 (lks rfl) (fun E' le hat => as22_ok E' ⟨⟨_, _, _, _, _, _⟩, _, _, _, _⟩ _ (Sl.mono (by assumption) le) (by assumption) (by first | assumption | (dsimp only; omega))) ?_) rfl
              rintro _ _ ⟨xa19, xm19, xc19, rfl, rfl⟩
              refine AB.s 5 rfl (by decide +kernel) (by decide +kernel) (Stp.alloc ty80 (fun b6 => ?_)) rfl
              refine AB.e 6 rfl (by decide +kernel) (by decide +kernel) (Stp.store 2 Try.sizeOf80 (lk rfl) (lk rfl) rfl rfl rfl rfl rfl rfl rfl ?_)
              refine AB.e 7 rfl (by decide +kernel) (by decide +kernel) (Stp.store 0 Try.sizeOf80 (lk rfl) (lk rfl) rfl rfl rfl rfl rfl rfl rfl ?_)
              refine AB.done (by decide +kernel) ?_
              refine Joint.goK [2, 0, 1, 0, 0, 0] ((b5, b6), (xa17, xm17, xc17), (xa19, xm19, xc19)) rfl rfl rfl ⟨rfl, rfl, trivial⟩ rfl rfl trivial
            · refine ABI.s rfl (by decide +kernel) (Stp.alloc ty80 (fun b6 => ?_)) rfl
              refine AB.s 3 rfl (by decide +kernel) (by decide +kernel) (Stp.call rfl Try.call40 (lks rfl) (fun E' le hat => as22_ok E' ⟨⟨_, _, _, _, _, _⟩, _, _, _, _⟩ _ (Sl.mono (by assumption) le) (by assumption) (by first | assumption | (dsimp only; omega))) ?_) rfl
              rintro _ _ ⟨xa19, xm19, xc19, rfl, rfl⟩
              refine AB.e 6 rfl (by decide +kernel) (by decide +kernel) (Stp.store 2 Try.sizeOf80 (lk rfl) (lk rfl) rfl rfl rfl rfl rfl rfl rfl ?_)
              refine AB.e 7 rfl (by decide +kernel) (by decide +kernel) (Stp.store 1 Try.sizeOf80 (lk rfl) (lk rfl) rfl rfl rfl rfl rfl rfl rfl ?_)
              refine AB.done (by decide +kernel) ?_
              refine Joint.goK [2, 1, 1, 0, 0, 0] ((b5, b6), (xa17, xm17, xc17), (xa19, xm19, xc19)) rfl rfl rfl ⟨rfl, rfl, trivial⟩ rfl rfl trivial
          · refine ABI.s rfl (by decide +kernel) (Stp.alloc ty80 (fun b6 => ?_)) rfl
            refine AB.more [3, 4] (by decide +kernel) rfl ⟨?_, ?_, trivial⟩
            · refine ABI.s rfl (by decide +kernel) (Stp.call rfl Try.call40 (lks rfl) (fun E' le hat => as22_ok E' ⟨⟨_, _, _, _, _, _⟩, _, _, _, _⟩ _ (Sl.mono (by assumption) le) (by assumption) (by first | assumption | (dsimp only; omega))) ?_) rfl
              rintro _ _ ⟨xa19, xm19, xc19, rfl, rfl⟩
              refine AB.s 4 rfl (by decide +kernel) (by decide +kernel) (Stp.alloc ty80 (fun b5 => ?_)) rfl
              refine AB.e 6 rfl (by decide +kernel) (by decide +kernel) (Stp.store 0 Try.sizeOf80 (lk rfl) (lk rfl) rfl rfl rfl rfl rfl rfl rfl ?_)
              refine AB.e 7 rfl (by decide +kernel) (by decide +kernel) (Stp.store 2 Try.sizeOf80 (lk rfl) (lk rfl) rfl rfl rfl rfl rfl rfl rfl ?_)
              refine AB.done (by decide +kernel) ?_
              refine Joint.goK [0, 1, 1, 0, 0, 0] ((b5, b6), (xa17, xm17, xc17), (xa19, xm19, xc19)) rfl rfl rfl ⟨rfl, rfl, trivial⟩ rfl rfl trivial
            · refine ABI.s rfl (by decide +kernel) (Stp.alloc ty80 (fun b5 => ?_)) rfl
              refine AB.s 3 rfl (by decide +kernel) (by decide +kernel) (Stp.call rfl Try.call40 (lks rfl) (fun E' le hat => as22_ok E' ⟨⟨_, _, _, _, _, _⟩, _, _, _, _⟩ _ (Sl.mono (by assumption) le) (by assumption) (by first | assumption | (dsimp only; omega))) ?_) rfl
              rintro _ _ ⟨xa19, xm19, xc19, rfl, rfl⟩
              refine AB.e 6 rfl (by decide +kernel) (by decide +kernel) (Stp.store 1 Try.sizeOf80 (lk rfl) (lk rfl) rfl rfl rfl rfl rfl rfl rfl ?_)
              refine AB.e 7 rfl (by decide +kernel) (by decide +kernel) (Stp.store 2 Try.sizeOf80 (lk rfl) (lk rfl) rfl rfl rfl rfl rfl rfl rfl ?_)
              refine AB.done (by decide +kernel) ?_
              refine Joint.goK [1, 1, 1, 0, 0, 0] ((b5, b6), (xa17, xm17, xc17), (xa19, xm19, xc19)) rfl rfl rfl ⟨rfl, rfl, trivial⟩ rfl rfl trivial
        · refine ABI.s rfl (by decide +kernel) (Stp.alloc ty80 (fun b5 => ?_)) rfl
          refine AB.more [1, 5] (by decide +kernel) rfl ⟨?_, ?_, trivial⟩
          · refine ABI.s rfl (by decide +kernel) (Stp.call rfl Try.call40 (lks rfl) (fun E' le hat => as22_ok E' ⟨⟨_, _, _, _, _, _⟩, _, _, _, _⟩ _ (Sl.mono (by assumption) le) (by assumption) (by first | assumption | (dsimp only; omega))) ?_) rfl
            rintro _ _ ⟨xa17, xm17, xc17, rfl, rfl⟩
            refine AB.more [3, 5] (by decide +kernel) rfl ⟨?_, ?_, trivial⟩
            · refine ABI.s rfl (by decide +kernel) (Stp.call rfl Try.call40 (lks rfl) (fun E' le hat => as22_ok E' ⟨⟨_, _, _, _, _, _⟩, _, _, _, _⟩ _ (Sl.mono (by assumption) le) (by assumption) (by first | assumption | (dsimp only; omega))) ?_) rfl
              rintro _ _ ⟨xa19, xm19, xc19, rfl, rfl⟩
              refine AB.s 5 rfl (by decide +kernel) (by decide +kernel) (Stp.alloc ty80 (fun b6 => ?_)) rfl
              refine AB.e 6 rfl (by decide +kernel) (by decide +kernel) (Stp.store 3 Try.sizeOf80 (lk rfl) (lk rfl) rfl rfl rfl rfl rfl rfl rfl ?_)
              refine AB.e 7 rfl (by decide +kernel) (by decide +kernel) (Stp.store 0 Try.sizeOf80 (lk rfl) (lk rfl) rfl rfl rfl rfl rfl rfl rfl ?_)
              refine AB.done (by decide +kernel) ?_
              refine Joint.goK [3, 0, 1, 0, 0, 0] ((b5, b6), (xa17, xm17, xc17), (xa19, xm19, xc19)) rfl rfl rfl ⟨rfl, rfl, trivial⟩ rfl rfl trivial
            · refine ABI.s rfl (by decide +kernel) (Stp.alloc ty80 (fun b6 => ?_)) rfl
              refine AB.s 3 rfl (by decide +kernel) (by decide +kernel) (Stp.call rfl Try.call40 (lks rfl) (fun E' le hat => as22_ok E' ⟨⟨_, _, _, _, _, _⟩, _, _, _, _⟩ _ (Sl.mono (by assumption) le) (by assumption) (by first | assumption | (dsimp only; omega))) ?_) rfl
              rintro _ _ ⟨xa19, xm19, xc19, rfl, rfl⟩
              refine AB.e 6 rfl (by decide +kernel) (by decide +kernel) (Stp.store 3 Try.sizeOf80 (lk rfl) (lk rfl) rfl rfl rfl rfl rfl rfl rfl ?_)
              refine AB.e 7 rfl (by decide +kernel) (by decide +kernel) (Stp.store 1 Try.sizeOf80 (lk rfl) (lk rfl) rfl rfl rfl rfl rfl rfl rfl ?_)
              refine AB.done (by decide +kernel) ?_
              refine Joint.goK [3, 1, 1, 0, 0, 0] ((b5, b6), (xa17, xm17, xc17), (xa19, xm19, xc19)) rfl rfl rfl ⟨rfl, rfl, trivial⟩ rfl rfl trivial
          · refine ABI.s rfl (by decide +kernel) (Stp.alloc ty80 (fun b6 => ?_)) rfl
            refine AB.s 1 rfl (by decide +kernel) (by decide +kernel) (Stp.call rfl Try.call40 (lks rfl) (fun E' le hat => as22_ok E' ⟨⟨_, _, _, _, _, _⟩, _, _, _, _⟩ _ (Sl.mono (by assumption) le) (by assumption) (by first | assumption | (dsimp only; omega))) ?_) rfl
            rintro _ _ ⟨xa17, xm17, xc17, rfl, rfl⟩
            refine AB.s 3 rfl (by decide +kernel) (by decide +kernel) (Stp.call rfl Try.call40 (lks rfl) (fun E' le hat => as22_ok E' ⟨⟨_, _, _, _, _, _⟩, _, _, _, _⟩ _ (Sl.mono (by assumption) le) (by assumption) (by first | assumption | (dsimp only; omega))) ?_) rfl
            rintro _ _ ⟨xa19, xm19, xc19, rfl, rfl⟩
            refine AB.e 6 rfl (by decide +kernel) (by decide +kernel) (Stp.store 3 Try.sizeOf80 (lk rfl) (lk rfl) rfl rfl rfl rfl rfl rfl rfl ?_)
            refine AB.e 7 rfl (by decide +kernel) (by decide +kernel) (Stp.store 2 Try.sizeOf80 (lk rfl) (lk rfl) rfl rfl rfl rfl rfl rfl rfl ?_)
            refine AB.done (by decide +kernel) ?_
            refine Joint.goK [3, 2, 1, 0, 0, 0] ((b5, b6), (xa17, xm17, xc17), (xa19, xm19, xc19)) rfl rfl rfl ⟨rfl, rfl, trivial⟩ rfl rfl trivial
        · refine ABI.s rfl (by decide +kernel) (Stp.alloc ty80 (fun b6 => ?_)) rfl
          refine AB.more [1, 4] (by decide +kernel) rfl ⟨?_, ?_, trivial⟩
          · refine ABI.s rfl (by decide +kernel) (Stp.call rfl Try.call40 (lks rfl) (fun E' le hat => as22_ok E' ⟨⟨_, _, _, _, _, _⟩, _, _, _, _⟩ _ (Sl.mono (by assumption) le) (by assumption) (by first | assumption | (dsimp only; omega))) ?_) rfl
            rintro _ _ ⟨xa17, xm17, xc17, rfl, rfl⟩
            refine AB.more [3, 4] (by decide +kernel) rfl ⟨?_, ?_, trivial⟩
            · refine ABI.s rfl (by decide +kernel) (Stp.call rfl Try.call40 (lks rfl) (fun E' le hat => as22_ok E' ⟨⟨_, _, _, _, _, _⟩, _, _, _, _⟩ _ (Sl.mono (by assumption) le) (by assumption) (by first | assumption | (dsimp only; omega))) ?_) rfl
              rintro _ _ ⟨xa19, xm19, xc19, rfl, rfl⟩
              refine AB.s 4 rfl (by decide +kernel) (by decide +kernel) (Stp.alloc ty80 (fun b5 => ?_)) rfl
              refine AB.e 6 rfl (by decide +kernel) (by decide +kernel) (Stp.store 0 Try.sizeOf80 (lk rfl) (lk rfl) rfl rfl rfl rfl rfl rfl rfl ?_)
              refine AB.e 7 rfl (by decide +kernel) (by decide +kernel) (Stp.store 3 Try.sizeOf80 (lk rfl) (lk rfl) rfl rfl rfl rfl rfl rfl rfl ?_)
              refine AB.done (by decide +kernel) ?_
              refine Joint.goK [0, 2, 1, 0, 0, 0] ((b5, b6), (xa17, xm17, xc17), (xa19, xm19, xc19)) rfl rfl rfl ⟨rfl, rfl, trivial⟩ rfl rfl trivial
            · refine ABI.s rfl (by decide +kernel) (Stp.alloc ty80 (fun b5 => ?_)) rfl
              refine AB.s 3 rfl (by decide +kernel) (by decide +kernel) (Stp.call rfl Try.call40 (lks rfl) (fun E' le hat => as22_ok E' ⟨⟨_, _, _, _, _, _⟩, _, _, _, _⟩ _ (Sl.mono (by assumption) le) (by assumption) (by first | assumption | (dsimp only; omega))) ?_) rfl
              rintro _ _ ⟨xa19, xm19, xc19, rfl, rfl⟩
              refine AB.e 6 rfl (by decide +kernel) (by decide +kernel) (Stp.store 1 Try.sizeOf80 (lk rfl) (lk rfl) rfl rfl rfl rfl rfl rfl rfl ?_)
              refine AB.e 7 rfl (by decide +kernel) (by decide +kernel) (Stp.store 3 Try.sizeOf80 (lk rfl) (lk rfl) rfl rfl rfl rfl rfl rfl rfl ?_)
              refine AB.done (by decide +kernel) ?_
              refine Joint.goK [1, 2, 1, 0, 0, 0] ((b5, b6), (xa17, xm17, xc17), (xa19, xm19, xc19)) rfl rfl rfl ⟨rfl, rfl, trivial⟩ rfl rfl trivial
          · refine ABI.s rfl (by decide +kernel) (Stp.alloc ty80 (fun b5 => ?_)) rfl
            refine AB.s 1 rfl (by decide +kernel) (by decide +kernel) (Stp.call rfl Try.call40 (lks rfl) (fun E' le hat => as22_ok E' ⟨⟨_, _, _, _, _, _⟩, _, _, _, _⟩ _ (Sl.mono (by assumption) le) (by assumption) (by first | assumption | (dsimp only; omega))) ?_) rfl
            rintro _ _ ⟨xa17, xm17, xc17, rfl, rfl⟩
            refine AB.s 3 rfl (by decide +kernel) (by decide +kernel) (Stp.call rfl Try.call40 (lks rfl) (fun E' le hat => as22_ok E' ⟨⟨_, _, _, _, _, _⟩, _, _, _, _⟩ _ (Sl.mono (by assumption) le) (by assumption) (by first | assumption | (dsimp only; omega))) ?_) rfl
            rintro _ _ ⟨xa19, xm19, xc19, rfl, rfl⟩
            refine AB.e 6 rfl (by decide +kernel) (by decide +kernel) (Stp.store 2 Try.sizeOf80 (lk rfl) (lk rfl) rfl rfl rfl rfl rfl rfl rfl ?_)
            refine AB.e 7 rfl (by decide +kernel) (by decide +kernel) (Stp.store 3 Try.sizeOf80 (lk rfl) (lk rfl) rfl rfl rfl rfl rfl rfl rfl ?_)
            refine AB.done (by decide +kernel) ?_
            refine Joint.goK [2, 2, 1, 0, 0, 0] ((b5, b6), (xa17, xm17, xc17), (xa19, xm19, xc19)) rfl rfl rfl ⟨rfl, rfl, trivial⟩ rfl rfl trivial
      · rintro ⟨⟨b5, b6⟩, ⟨xa, xm, xc⟩, ⟨ya, ym, yc⟩⟩ u _
        dsimp only
        refine Body.seq ?_
        refine Body.region ?_
        refine Ops.d (Det.lda Try.isAgg77 Try.sizeOf77 (lk rfl) (Rds.ow (m := 10) 5 rfl rfl) rfl) rfl ?_
        refine Ops.d (Det.lda Try.isAgg77 Try.sizeOf77 (lk rfl) (Rds.ow (m := 10) 4 rfl rfl) rfl) rfl ?_
        refine Ops.s (Stp.call rfl Try.call41 (lks rfl) (fun E' le hat => hD E' le) ?_) rfl
        rintro _ _ ⟨s23, rfl, rfl⟩
        cases ka : (Stt.mk (View.mk vr vc vcs vo vl vv) vt vp vn vb).ok with
        | false =>
          have e1 : sdifW (Stt.mk (View.mk vr vc vcs vo vl vv) vt vp vn vb) (Stt.mk (View.mk wr wc wcs wo wl wv) wt wp wn wb) = [] := by simp [sdifW, ka]
          have e2 : sdifE (Stt.mk (View.mk vr vc vcs vo vl vv) vt vp vn vb) (Stt.mk (View.mk wr wc wcs wo wl wv) wt wp wn wb) = 3 := by simp [sdifE, ka]
          refine Ops.u (Dtu.mv (lk rfl)) rfl ?_
          refine Ops.u (Dtu.ext (lk rfl) rfl) rfl ?_
          refine Ops.u (Dtu.ext (lk rfl) rfl) rfl ?_
          refine Ops.u (Dtu.asg (lk rfl)) rfl ?_
          refine Ops.u (Dtu.asg (lk rfl)) rfl ?_
          refine Ops.nil ?_
          refine Then.next ?_
          refine Body.seq ?_
          refine Body.seq ?_
          refine Body.draw mixed ?_
          refine AB.d 0 rfl (by decide +kernel) rfl (Det.lda Try.isAgg77 Try.sizeOf77 (lk rfl) (Rds.ow (m := 10) 6 rfl rfl) rfl) rfl ?_
          refine AB.d 2 rfl (by decide +kernel) rfl (Det.lda Try.isAgg80 Try.sizeOf80 (lk rfl) (Rds.ow (m := 10) 1 rfl rfl) rfl) rfl ?_
          refine AB.s 1 rfl (by decide +kernel) (by decide +kernel) (Stp.call rfl Try.call42 (lks rfl) (fun E' le hat => sright_ok E' ⟨⟨_, _, _, _, _, _⟩, _, _, _, _⟩ _ (Sl.mono (by assumption) le)) ?_) rfl
          rintro _ _ ⟨rfl, rfl⟩
          refine AB.s 3 rfl (by decide +kernel) (by decide +kernel) (Stp.call rfl Try.call43 (lks rfl) (fun E' le hat => rright22_ok E' (Stt.mk (View.mk vr vc vcs vo vl vv) vt vp vn vb) (.slice xa xm xc) (Sl.at (t := 65) (hat _ (by simp))) gv) ?_) rfl
          rintro _ _ ⟨rfl, rfl⟩
          rw [ka]
          refine AB.u 4 rfl (by decide +kernel) (Dtu.neB Try.underlying4 (lk rfl) (lk rfl)) rfl ?_
          refine AB.u 5 rfl (by decide +kernel) (Dtu.mv (lk rfl)) rfl ?_
          refine AB.decP 31 rfl (fun hy => absurd hy (by first | omega | assumption | decide)) (fun _ => ?_)
          refine AB.gd 6 rfl (by decide +kernel) rfl rfl rfl rfl (Det.lda Try.isAgg77 Try.sizeOf77 (lk rfl) (Rds.ow (m := 10) 6 rfl rfl) rfl) rfl ?_
          refine AB.gd 7 rfl (by decide +kernel) rfl rfl rfl rfl (Det.lda Try.isAgg77 Try.sizeOf77 (lk rfl) (Rds.ow (m := 10) 5 rfl rfl) rfl) rfl ?_
          refine AB.gd 9 rfl (by decide +kernel) rfl rfl rfl rfl (Det.lda Try.isAgg80 Try.sizeOf80 (lk rfl) (Rds.ow (m := 10) 1 rfl rfl) rfl) rfl ?_
          refine AB.gd 10 rfl (by decide +kernel) rfl rfl rfl rfl (Det.lda Try.isAgg80 Try.sizeOf80 (lk rfl) (Rds.ow (m := 10) 2 rfl rfl) rfl) rfl ?_
          refine AB.gs 8 rfl (by decide +kernel) (by decide +kernel) rfl rfl rfl (Stp.call rfl Try.call44 (lks rfl) (fun E' le hat => ssame_ok E' (Stt.mk (View.mk vr vc vcs vo vl vv) vt vp vn vb) (Stt.mk (View.mk wr wc wcs wo wl wv) wt wp wn wb) (.slice sa sm sc) (.slice ta tm tc) (Sl.mono hv le) (Sl.mono ho le)) ?_) rfl
          rintro _ _ ⟨rfl, rfl⟩
          skip
          refine AB.gs 11 rfl (by decide +kernel) (by decide +kernel) rfl rfl rfl (Stp.call rfl Try.call45 (lks rfl) (fun E' le hat => rsame22_ok E' (Stt.mk (View.mk vr vc vcs vo vl vv) vt vp vn vb) (Stt.mk (View.mk wr wc wcs wo wl wv) wt wp wn wb) (.slice xa xm xc) (.slice ya ym yc) (Sl.at (t := 65) (hat _ (by simp))) (Sl.at (t := 65) (hat _ (by simp))) fvl fol) ?_) rfl
          rintro _ _ ⟨rfl, rfl⟩
          generalize decide (Stt.eqv (Stt.mk (View.mk vr vc vcs vo vl vv) vt vp vn vb) (Stt.mk (View.mk wr wc wcs wo wl wv) wt wp wn wb)) = q
          have hqq : ¬ (q ≠ q) := fun h => h rfl
          refine AB.gu 12 rfl (by decide +kernel) rfl rfl rfl (Dtu.neB Try.underlying4 (lk rfl) (lk rfl)) rfl ?_
          refine AB.u 13 rfl (by decide +kernel) (Dtu.pickF (lk rfl) (lk rfl)) rfl ?_
          refine AB.done (by decide +kernel) ?_
          refine Then.next ?_
          refine Body.condP (lk rfl) (fun hy => absurd hy (by first | omega | assumption | decide)) (fun _ => ?_)
          refine Body.skip ?_
          refine Then.next ?_
          refine Body.seq ?_
          refine Body.seq ?_
          refine Body.region ?_
          refine Ops.d (Det.lda Try.isAgg80 Try.sizeOf80 (lk rfl) (Rds.ow (m := 10) 1 rfl rfl) rfl) rfl ?_
          refine Ops.s (Stp.call rfl Try.call43 (lks rfl) (fun E' le hat => rright22_ok E' (Stt.mk (View.mk vr vc vcs vo vl vv) vt vp vn vb) (.slice xa xm xc) (Sl.at (t := 65) (hat _ (by simp))) gv) ?_) rfl
          rintro _ _ ⟨rfl, rfl⟩
          rw [ka]
          refine Ops.u (Dtu.not (lk rfl)) rfl ?_
          refine Ops.u (Dtu.mv (lk rfl)) rfl ?_
          refine Ops.gn rfl rfl rfl rfl rfl ?_
          refine Ops.gn rfl rfl rfl rfl rfl ?_
          refine Ops.gn rfl rfl rfl rfl rfl ?_
          refine Ops.u (Dtu.pickT (lk rfl) (lk rfl)) rfl ?_
          refine Ops.nil ?_
          refine Then.next ?_
          refine Body.condT (lk rfl) ?_
          refine Body.seq ?_
          refine Body.region ?_
          refine Ops.s (Stp.call rfl Try.call39 (lks rfl) (fun E' le hat => alive22_ok E') ?_) rfl
          rintro _ _ ⟨rfl, rfl⟩
          refine Ops.u (Dtu.mv (lk rfl)) rfl ?_
          refine Ops.gu rfl rfl rfl (Dtu.mv (lk rfl)) rfl ?_
          refine Ops.gu rfl rfl rfl (Dtu.eql (lk rfl) (lk rfl)) rfl ?_
          refine Ops.u (Dtu.pickT (lk rfl) (lk rfl)) rfl ?_
          refine Ops.u (Dtu.mv (lk rfl)) rfl ?_
          refine Ops.decP 53 rfl (fun _ => ?_) (fun hn => absurd (by first | omega | assumption | decide) hn)
          refine Ops.gu rfl rfl rfl (Dtu.mv (lk rfl)) rfl ?_
          refine Ops.gu rfl rfl rfl (Dtu.lenS Try.underlying32 (Sl.osl 0 rfl) (lk rfl)) rfl ?_
          refine Ops.gu rfl rfl rfl (Dtu.eql (lk rfl) (lk rfl)) rfl ?_
          refine Ops.u (Dtu.pickT (lk rfl) (lk rfl)) rfl ?_
          refine Ops.u (Dtu.asg (lk rfl)) rfl ?_
          refine Ops.nil ?_
          refine Then.next ?_
          refine Body.ret ?_
          refine Then.ret ?_
          exact ⟨.inr rfl, _, pk [] rfl, bool_eq (by simp [e1]), rfl⟩
        | true =>
          cases kb : (Stt.mk (View.mk wr wc wcs wo wl wv) wt wp wn wb).ok with
          | false =>
            have e1 : sdifW (Stt.mk (View.mk vr vc vcs vo vl vv) vt vp vn vb) (Stt.mk (View.mk wr wc wcs wo wl wv) wt wp wn wb) = [] := by simp [sdifW, kb]
            have e2 : sdifE (Stt.mk (View.mk vr vc vcs vo vl vv) vt vp vn vb) (Stt.mk (View.mk wr wc wcs wo wl wv) wt wp wn wb) = 3 := by simp [sdifE, kb]
            refine Ops.u (Dtu.mv (lk rfl)) rfl ?_
            refine Ops.u (Dtu.ext (lk rfl) rfl) rfl ?_
            refine Ops.u (Dtu.ext (lk rfl) rfl) rfl ?_
            refine Ops.u (Dtu.asg (lk rfl)) rfl ?_
            refine Ops.u (Dtu.asg (lk rfl)) rfl ?_
            refine Ops.nil ?_
            refine Then.next ?_
            refine Body.seq ?_
            refine Body.seq ?_
            refine Body.draw mixed ?_
            refine AB.d 0 rfl (by decide +kernel) rfl (Det.lda Try.isAgg77 Try.sizeOf77 (lk rfl) (Rds.ow (m := 10) 6 rfl rfl) rfl) rfl ?_
            refine AB.d 2 rfl (by decide +kernel) rfl (Det.lda Try.isAgg80 Try.sizeOf80 (lk rfl) (Rds.ow (m := 10) 1 rfl rfl) rfl) rfl ?_
            refine AB.s 1 rfl (by decide +kernel) (by decide +kernel) (Stp.call rfl Try.call42 (lks rfl) (fun E' le hat => sright_ok E' ⟨⟨_, _, _, _, _, _⟩, _, _, _, _⟩ _ (Sl.mono (by assumption) le)) ?_) rfl
            rintro _ _ ⟨rfl, rfl⟩
            refine AB.s 3 rfl (by decide +kernel) (by decide +kernel) (Stp.call rfl Try.call43 (lks rfl) (fun E' le hat => rright22_ok E' (Stt.mk (View.mk vr vc vcs vo vl vv) vt vp vn vb) (.slice xa xm xc) (Sl.at (t := 65) (hat _ (by simp))) gv) ?_) rfl
            rintro _ _ ⟨rfl, rfl⟩
            rw [ka]
            refine AB.u 4 rfl (by decide +kernel) (Dtu.neB Try.underlying4 (lk rfl) (lk rfl)) rfl ?_
            refine AB.u 5 rfl (by decide +kernel) (Dtu.mv (lk rfl)) rfl ?_
            refine AB.decP 31 rfl (fun hy => absurd hy (by first | omega | assumption | decide)) (fun _ => ?_)
            refine AB.gd 6 rfl (by decide +kernel) rfl rfl rfl rfl (Det.lda Try.isAgg77 Try.sizeOf77 (lk rfl) (Rds.ow (m := 10) 6 rfl rfl) rfl) rfl ?_
            refine AB.gd 7 rfl (by decide +kernel) rfl rfl rfl rfl (Det.lda Try.isAgg77 Try.sizeOf77 (lk rfl) (Rds.ow (m := 10) 5 rfl rfl) rfl) rfl ?_
            refine AB.gd 9 rfl (by decide +kernel) rfl rfl rfl rfl (Det.lda Try.isAgg80 Try.sizeOf80 (lk rfl) (Rds.ow (m := 10) 1 rfl rfl) rfl) rfl ?_
            refine AB.gd 10 rfl (by decide +kernel) rfl rfl rfl rfl (Det.lda Try.isAgg80 Try.sizeOf80 (lk rfl) (Rds.ow (m := 10) 2 rfl rfl) rfl) rfl ?_
            refine AB.gs 8 rfl (by decide +kernel) (by decide +kernel) rfl rfl rfl (Stp.call rfl Try.call44 (lks rfl) (fun E' le hat => ssame_ok E' (Stt.mk (View.mk vr vc vcs vo vl vv) vt vp vn vb) (Stt.mk (View.mk wr wc wcs wo wl wv) wt wp wn wb) (.slice sa sm sc) (.slice ta tm tc) (Sl.mono hv le) (Sl.mono ho le)) ?_) rfl
            rintro _ _ ⟨rfl, rfl⟩
            skip
            refine AB.gs 11 rfl (by decide +kernel) (by decide +kernel) rfl rfl rfl (Stp.call rfl Try.call45 (lks rfl) (fun E' le hat => rsame22_ok E' (Stt.mk (View.mk vr vc vcs vo vl vv) vt vp vn vb) (Stt.mk (View.mk wr wc wcs wo wl wv) wt wp wn wb) (.slice xa xm xc) (.slice ya ym yc) (Sl.at (t := 65) (hat _ (by simp))) (Sl.at (t := 65) (hat _ (by simp))) fvl fol) ?_) rfl
            rintro _ _ ⟨rfl, rfl⟩
            generalize decide (Stt.eqv (Stt.mk (View.mk vr vc vcs vo vl vv) vt vp vn vb) (Stt.mk (View.mk wr wc wcs wo wl wv) wt wp wn wb)) = q
            have hqq : ¬ (q ≠ q) := fun h => h rfl
            refine AB.gu 12 rfl (by decide +kernel) rfl rfl rfl (Dtu.neB Try.underlying4 (lk rfl) (lk rfl)) rfl ?_
            refine AB.u 13 rfl (by decide +kernel) (Dtu.pickF (lk rfl) (lk rfl)) rfl ?_
            refine AB.done (by decide +kernel) ?_
            refine Then.next ?_
            refine Body.condP (lk rfl) (fun hy => absurd hy (by first | omega | assumption | decide)) (fun _ => ?_)
            refine Body.skip ?_
            refine Then.next ?_
            refine Body.seq ?_
            refine Body.seq ?_
            refine Body.region ?_
            refine Ops.d (Det.lda Try.isAgg80 Try.sizeOf80 (lk rfl) (Rds.ow (m := 10) 1 rfl rfl) rfl) rfl ?_
            refine Ops.s (Stp.call rfl Try.call43 (lks rfl) (fun E' le hat => rright22_ok E' (Stt.mk (View.mk vr vc vcs vo vl vv) vt vp vn vb) (.slice xa xm xc) (Sl.at (t := 65) (hat _ (by simp))) gv) ?_) rfl
            rintro _ _ ⟨rfl, rfl⟩
            rw [ka]
            refine Ops.u (Dtu.not (lk rfl)) rfl ?_
            refine Ops.u (Dtu.mv (lk rfl)) rfl ?_
            refine Ops.gd rfl rfl rfl (Det.lda Try.isAgg80 Try.sizeOf80 (lk rfl) (Rds.ow (m := 10) 2 rfl rfl) rfl) rfl ?_
            refine Ops.gs rfl rfl rfl (Stp.call rfl Try.call43 (lks rfl) (fun E' le hat => rright22_ok E' (Stt.mk (View.mk wr wc wcs wo wl wv) wt wp wn wb) (.slice ya ym yc) (Sl.at (t := 65) (hat _ (by simp))) go) ?_) rfl
            rintro _ _ ⟨rfl, rfl⟩
            rw [kb]
            refine Ops.gu rfl rfl rfl (Dtu.not (lk rfl)) rfl ?_
            refine Ops.u (Dtu.pickF (lk rfl) (lk rfl)) rfl ?_
            refine Ops.nil ?_
            refine Then.next ?_
            refine Body.condT (lk rfl) ?_
            refine Body.seq ?_
            refine Body.region ?_
            refine Ops.s (Stp.call rfl Try.call39 (lks rfl) (fun E' le hat => alive22_ok E') ?_) rfl
            rintro _ _ ⟨rfl, rfl⟩
            refine Ops.u (Dtu.mv (lk rfl)) rfl ?_
            refine Ops.gu rfl rfl rfl (Dtu.mv (lk rfl)) rfl ?_
            refine Ops.gu rfl rfl rfl (Dtu.eql (lk rfl) (lk rfl)) rfl ?_
            refine Ops.u (Dtu.pickT (lk rfl) (lk rfl)) rfl ?_
            refine Ops.u (Dtu.mv (lk rfl)) rfl ?_
            refine Ops.decP 53 rfl (fun _ => ?_) (fun hn => absurd (by first | omega | assumption | decide) hn)
            refine Ops.gu rfl rfl rfl (Dtu.mv (lk rfl)) rfl ?_
            refine Ops.gu rfl rfl rfl (Dtu.lenS Try.underlying32 (Sl.osl 0 rfl) (lk rfl)) rfl ?_
            refine Ops.gu rfl rfl rfl (Dtu.eql (lk rfl) (lk rfl)) rfl ?_
            refine Ops.u (Dtu.pickT (lk rfl) (lk rfl)) rfl ?_
            refine Ops.u (Dtu.asg (lk rfl)) rfl ?_
            refine Ops.nil ?_
            refine Then.next ?_
            refine Body.ret ?_
            refine Then.ret ?_
            exact ⟨.inr rfl, _, pk [] rfl, bool_eq (by simp [e1]), rfl⟩
          | true =>
            have e1 : sdifW (Stt.mk (View.mk vr vc vcs vo vl vv) vt vp vn vb) (Stt.mk (View.mk wr wc wcs wo wl wv) wt wp wn wb) = sdifB (Stt.mk (View.mk vr vc vcs vo vl vv) vt vp vn vb) (Stt.mk (View.mk wr wc wcs wo wl wv) wt wp wn wb) := by simp [sdifW, ka, kb]
            have e2 : sdifE (Stt.mk (View.mk vr vc vcs vo vl vv) vt vp vn vb) (Stt.mk (View.mk wr wc wcs wo wl wv) wt wp wn wb) = 0 := by simp [sdifE, ka, kb]
            refine Ops.u (Dtu.mv (lk rfl)) rfl ?_
            refine Ops.u (Dtu.ext (lk rfl) rfl) rfl ?_
            refine Ops.u (Dtu.ext (lk rfl) rfl) rfl ?_
            refine Ops.u (Dtu.asg (lk rfl)) rfl ?_
            refine Ops.u (Dtu.asg (lk rfl)) rfl ?_
            refine Ops.nil ?_
            refine Then.next ?_
            refine Body.seq ?_
            refine Body.seq ?_
            refine Body.draw mixed ?_
            refine AB.d 0 rfl (by decide +kernel) rfl (Det.lda Try.isAgg77 Try.sizeOf77 (lk rfl) (Rds.ow (m := 10) 6 rfl rfl) rfl) rfl ?_
            refine AB.d 2 rfl (by decide +kernel) rfl (Det.lda Try.isAgg80 Try.sizeOf80 (lk rfl) (Rds.ow (m := 10) 1 rfl rfl) rfl) rfl ?_
            refine AB.s 1 rfl (by decide +kernel) (by decide +kernel) (Stp.call rfl Try.call42 (lks rfl) (fun E' le hat => sright_ok E' ⟨⟨_, _, _, _, _, _⟩, _, _, _, _⟩ _ (Sl.mono (by assumption) le)) ?_) rfl
            rintro _ _ ⟨rfl, rfl⟩
            refine AB.s 3 rfl (by decide +kernel) (by decide +kernel) (Stp.call rfl Try.call43 (lks rfl) (fun E' le hat => rright22_ok E' (Stt.mk (View.mk vr vc vcs vo vl vv) vt vp vn vb) (.slice xa xm xc) (Sl.at (t := 65) (hat _ (by simp))) gv) ?_) rfl
            rintro _ _ ⟨rfl, rfl⟩
            rw [ka]
            refine AB.u 4 rfl (by decide +kernel) (Dtu.neB Try.underlying4 (lk rfl) (lk rfl)) rfl ?_
            refine AB.u 5 rfl (by decide +kernel) (Dtu.mv (lk rfl)) rfl ?_
            refine AB.decP 31 rfl (fun hy => absurd hy (by first | omega | assumption | decide)) (fun _ => ?_)
            refine AB.gd 6 rfl (by decide +kernel) rfl rfl rfl rfl (Det.lda Try.isAgg77 Try.sizeOf77 (lk rfl) (Rds.ow (m := 10) 6 rfl rfl) rfl) rfl ?_
            refine AB.gd 7 rfl (by decide +kernel) rfl rfl rfl rfl (Det.lda Try.isAgg77 Try.sizeOf77 (lk rfl) (Rds.ow (m := 10) 5 rfl rfl) rfl) rfl ?_
            refine AB.gd 9 rfl (by decide +kernel) rfl rfl rfl rfl (Det.lda Try.isAgg80 Try.sizeOf80 (lk rfl) (Rds.ow (m := 10) 1 rfl rfl) rfl) rfl ?_
            refine AB.gd 10 rfl (by decide +kernel) rfl rfl rfl rfl (Det.lda Try.isAgg80 Try.sizeOf80 (lk rfl) (Rds.ow (m := 10) 2 rfl rfl) rfl) rfl ?_
            refine AB.gs 8 rfl (by decide +kernel) (by decide +kernel) rfl rfl rfl (Stp.call rfl Try.call44 (lks rfl) (fun E' le hat => ssame_ok E' (Stt.mk (View.mk vr vc vcs vo vl vv) vt vp vn vb) (Stt.mk (View.mk wr wc wcs wo wl wv) wt wp wn wb) (.slice sa sm sc) (.slice ta tm tc) (Sl.mono hv le) (Sl.mono ho le)) ?_) rfl
            rintro _ _ ⟨rfl, rfl⟩
            skip
            refine AB.gs 11 rfl (by decide +kernel) (by decide +kernel) rfl rfl rfl (Stp.call rfl Try.call45 (lks rfl) (fun E' le hat => rsame22_ok E' (Stt.mk (View.mk vr vc vcs vo vl vv) vt vp vn vb) (Stt.mk (View.mk wr wc wcs wo wl wv) wt wp wn wb) (.slice xa xm xc) (.slice ya ym yc) (Sl.at (t := 65) (hat _ (by simp))) (Sl.at (t := 65) (hat _ (by simp))) fvl fol) ?_) rfl
            rintro _ _ ⟨rfl, rfl⟩
            generalize decide (Stt.eqv (Stt.mk (View.mk vr vc vcs vo vl vv) vt vp vn vb) (Stt.mk (View.mk wr wc wcs wo wl wv) wt wp wn wb)) = q
            have hqq : ¬ (q ≠ q) := fun h => h rfl
            refine AB.gu 12 rfl (by decide +kernel) rfl rfl rfl (Dtu.neB Try.underlying4 (lk rfl) (lk rfl)) rfl ?_
            refine AB.u 13 rfl (by decide +kernel) (Dtu.pickF (lk rfl) (lk rfl)) rfl ?_
            refine AB.done (by decide +kernel) ?_
            refine Then.next ?_
            refine Body.condP (lk rfl) (fun hy => absurd hy (by first | omega | assumption | decide)) (fun _ => ?_)
            refine Body.skip ?_
            refine Then.next ?_
            refine Body.seq ?_
            refine Body.seq ?_
            refine Body.region ?_
            refine Ops.d (Det.lda Try.isAgg80 Try.sizeOf80 (lk rfl) (Rds.ow (m := 10) 1 rfl rfl) rfl) rfl ?_
            refine Ops.s (Stp.call rfl Try.call43 (lks rfl) (fun E' le hat => rright22_ok E' (Stt.mk (View.mk vr vc vcs vo vl vv) vt vp vn vb) (.slice xa xm xc) (Sl.at (t := 65) (hat _ (by simp))) gv) ?_) rfl
            rintro _ _ ⟨rfl, rfl⟩
            rw [ka]
            refine Ops.u (Dtu.not (lk rfl)) rfl ?_
            refine Ops.u (Dtu.mv (lk rfl)) rfl ?_
            refine Ops.gd rfl rfl rfl (Det.lda Try.isAgg80 Try.sizeOf80 (lk rfl) (Rds.ow (m := 10) 2 rfl rfl) rfl) rfl ?_
            refine Ops.gs rfl rfl rfl (Stp.call rfl Try.call43 (lks rfl) (fun E' le hat => rright22_ok E' (Stt.mk (View.mk wr wc wcs wo wl wv) wt wp wn wb) (.slice ya ym yc) (Sl.at (t := 65) (hat _ (by simp))) go) ?_) rfl
            rintro _ _ ⟨rfl, rfl⟩
            rw [kb]
            refine Ops.gu rfl rfl rfl (Dtu.not (lk rfl)) rfl ?_
            refine Ops.u (Dtu.pickF (lk rfl) (lk rfl)) rfl ?_
            refine Ops.nil ?_
            refine Then.next ?_
            refine Body.condF (lk rfl) ?_
            refine Body.skip ?_
            refine Then.next ?_
            refine Body.seq ?_
            refine Body.draw mixed ?_
            refine AB.s 0 rfl (by decide +kernel) (by decide +kernel) (Stp.call rfl Try.call39 (lks rfl) (fun E' le hat => alive22_ok E') ?_) rfl
            rintro _ _ ⟨rfl, rfl⟩
            refine AB.u 1 rfl (by decide +kernel) (Dtu.mv (lk rfl)) rfl ?_
            refine AB.gu 2 rfl (by decide +kernel) rfl rfl rfl (Dtu.mv (lk rfl)) rfl ?_
            refine AB.gu 3 rfl (by decide +kernel) rfl rfl rfl (Dtu.eql (lk rfl) (lk rfl)) rfl ?_
            refine AB.u 4 rfl (by decide +kernel) (Dtu.pickT (lk rfl) (lk rfl)) rfl ?_
            refine AB.u 5 rfl (by decide +kernel) (Dtu.mv (lk rfl)) rfl ?_
            refine AB.decP 63 rfl (fun _ => ?_) (fun hn => absurd (by first | omega | assumption | decide) hn)
            refine AB.gu 6 rfl (by decide +kernel) rfl rfl rfl (Dtu.mv (lk rfl)) rfl ?_
            refine AB.gd 7 rfl (by decide +kernel) rfl rfl rfl rfl (Det.bstr Try.underlying32 Try.underlying5 Try.underlying9 (lk rfl) (Sl.osl 0 rfl)) rfl ?_
            refine AB.gd 8 rfl (by decide +kernel) rfl rfl rfl rfl (Det.lda Try.isAgg80 Try.sizeOf80 (lk rfl) (Rds.ow (m := 10) 1 rfl rfl) rfl) rfl ?_
            refine AB.gd 9 rfl (by decide +kernel) rfl rfl rfl rfl (Det.lda Try.isAgg80 Try.sizeOf80 (lk rfl) (Rds.ow (m := 10) 2 rfl rfl) rfl) rfl ?_
            refine AB.gs 10 rfl (by decide +kernel) (by decide +kernel) rfl rfl rfl (Stp.call rfl Try.call46 (lks rfl) (fun E' le hat => rdiff22_ok E' (Stt.mk (View.mk vr vc vcs vo vl vv) vt vp vn vb) (Stt.mk (View.mk wr wc wcs wo wl wv) wt wp wn wb) _ _ (Sl.at (t := 65) (hat _ (by simp))) (Sl.at (t := 65) (hat _ (by simp))) ka kb fvl fol fo.c0 fo.b0) ?_) rfl
            rintro _ _ ⟨s58, rfl, rfl⟩
            refine AB.gd 11 rfl (by decide +kernel) rfl rfl rfl rfl (Det.bstr Try.underlying32 Try.underlying5 Try.underlying9 (lk rfl) (Sl.osl 0 rfl)) rfl ?_
            refine AB.gu 12 rfl (by decide +kernel) rfl rfl rfl (Dtu.eqStr (lk rfl) (lk rfl)) rfl ?_
            refine AB.u 13 rfl (by decide +kernel) (Dtu.pickT (lk rfl) (lk rfl)) rfl ?_
            refine AB.u 14 rfl (by decide +kernel) (Dtu.asg (lk rfl)) rfl ?_
            refine AB.done (by decide +kernel) ?_
            refine Then.next ?_
            refine Body.ret ?_
            exact ⟨.inr rfl, _, pk [] rfl, bool_eq (by simp [e1]), rfl⟩
end Go.Proofs.Ytijjjdljdjnbaaa
end
section
/- RegApplies: what it computes. -/
namespace Go.Proofs.Ytijjjdljdjnbaaa
set_option maxRecDepth 100000
set_option linter.unusedVariables false
set_option linter.unusedSimpArgs false
open Go.Sx

end Go.Proofs.Ytijjjdljdjnbaaa
end
section
/- States and bytes as arguments, for RegDiffs and RegApplies. -/
end
