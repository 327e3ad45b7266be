/- Qf: RefH, RefI, RefJ, RefK, RefL. -/
import Derived.Test.YtijjjdljdjnbaaaRsa
import Derived.Test.YtijjjdljdjnbaaaRsb
import Derived.Test.YtijjjdljdjnbaaaRsc
import Derived.Test.YtijjjdljdjnbaaaRsd
import Derived.Test.YtijjjdljdjnbaaaRse
section
/- The document's views: which may be, which are the same. -/
namespace Go.Proofs.Ytijjjdljdjnbaaa
set_option maxRecDepth 100000
set_option linter.unusedVariables false
set_option linter.unusedSimpArgs false
open Go.Sx

theorem rhas_ok (E : Env) (R C r c : Int) (a : Option Addr) (m k : Nat) : Does Try.prog 60 #[.agg #[.int .i64 R, .int .i64 C, .slice a m k], .int .i64 r, .int .i64 c] E [] fun v H' => v = .bool (decide (0 ≤ r ∧ r < R ∧ 0 ≤ c ∧ c < C)) ∧ H' = [] := by
  refine Does.go (args := [.agg #[.int .i64 R, .int .i64 C, .slice a m k], .int .i64 r, .int .i64 c]) _ _ Try.func60 rfl Try.ntmps60 rfl rfl ?_
  refine Body.seq ?_
  refine Body.region ?_
  refine Ops.s (Stp.box (lk rfl) rfl (fun b3 => ?_)) rfl
  refine Ops.u (Dtu.asg (lk rfl)) rfl ?_
  refine Ops.nil ?_
  refine Then.next ?_
  refine Body.seq ?_
  refine Body.region ?_
  refine Ops.u (Dtu.mv (lk rfl)) rfl ?_
  refine Ops.u (Dtu.geq (lk rfl) (lk rfl)) rfl ?_
  refine Ops.u (Dtu.mv (lk rfl)) rfl ?_
  refine Ops.decP 9 rfl (fun c9 => ?_) (fun c9 => ?_)
  · refine Ops.gu rfl rfl rfl (Dtu.mv (lk rfl)) rfl ?_
    refine Ops.gu rfl rfl rfl (Dtu.fld fa28_0 (lk rfl)) rfl ?_
    refine Ops.gd rfl rfl rfl (Det.ld Try.isAgg3 (lk rfl) (Rd.ow 0 rfl rfl)) rfl ?_
    refine Ops.gu rfl rfl rfl (Dtu.lss (lk rfl) (lk rfl)) rfl ?_
    refine Ops.u (Dtu.pickT (lk rfl) (lk rfl)) rfl ?_
    refine Ops.u (Dtu.mv (lk rfl)) rfl ?_
    refine Ops.decP 15 rfl (fun c15 => ?_) (fun c15 => ?_)
    · refine Ops.gu rfl rfl rfl (Dtu.mv (lk rfl)) rfl ?_
      refine Ops.gu rfl rfl rfl (Dtu.geq (lk rfl) (lk rfl)) rfl ?_
      refine Ops.u (Dtu.pickT (lk rfl) (lk rfl)) rfl ?_
      refine Ops.u (Dtu.mv (lk rfl)) rfl ?_
      refine Ops.decP 19 rfl (fun c19 => ?_) (fun c19 => ?_)
      · refine Ops.gu rfl rfl rfl (Dtu.mv (lk rfl)) rfl ?_
        refine Ops.gu rfl rfl rfl (Dtu.fld fa28_1 (lk rfl)) rfl ?_
        refine Ops.gd rfl rfl rfl (Det.ld Try.isAgg3 (lk rfl) (Rd.ow 0 rfl rfl)) rfl ?_
        refine Ops.gu rfl rfl rfl (Dtu.lss (lk rfl) (lk rfl)) rfl ?_
        refine Ops.u (Dtu.pickT (lk rfl) (lk rfl)) rfl ?_
        refine Ops.u (Dtu.asg (lk rfl)) rfl ?_
        refine Ops.nil ?_
        refine Then.next ?_
        refine Body.ret ?_
        (refine ⟨.inr rfl, _, pk [] rfl, bool_eq ?_, rfl⟩; simp; omega)
      · refine Ops.gn rfl rfl rfl rfl rfl ?_
        refine Ops.gn rfl rfl rfl rfl rfl ?_
        refine Ops.gn rfl rfl rfl rfl rfl ?_
        refine Ops.gn rfl rfl rfl rfl rfl ?_
        refine Ops.u (Dtu.pickF (lk rfl) (lk rfl)) rfl ?_
        refine Ops.u (Dtu.asg (lk rfl)) rfl ?_
        refine Ops.nil ?_
        refine Then.next ?_
        refine Body.ret ?_
        (refine ⟨.inr rfl, _, pk [] rfl, bool_eq ?_, rfl⟩; simp; omega)
    · refine Ops.gn rfl rfl rfl rfl rfl ?_
      refine Ops.gn rfl rfl rfl rfl rfl ?_
      refine Ops.u (Dtu.pickF (lk rfl) (lk rfl)) rfl ?_
      refine Ops.u (Dtu.mv (lk rfl)) rfl ?_
      refine Ops.gn rfl rfl rfl rfl rfl ?_
      refine Ops.gn rfl rfl rfl rfl rfl ?_
      refine Ops.gn rfl rfl rfl rfl rfl ?_
      refine Ops.gn rfl rfl rfl rfl rfl ?_
      refine Ops.u (Dtu.pickF (lk rfl) (lk rfl)) rfl ?_
      refine Ops.u (Dtu.asg (lk rfl)) rfl ?_
      refine Ops.nil ?_
      refine Then.next ?_
      refine Body.ret ?_
      (refine ⟨.inr rfl, _, pk [] rfl, bool_eq ?_, rfl⟩; simp; omega)
  · refine Ops.gn rfl rfl rfl rfl rfl ?_
    refine Ops.gn rfl rfl rfl rfl rfl ?_
    refine Ops.gn rfl rfl rfl rfl rfl ?_
    refine Ops.gn rfl rfl rfl rfl rfl ?_
    refine Ops.u (Dtu.pickF (lk rfl) (lk rfl)) rfl ?_
    refine Ops.u (Dtu.mv (lk rfl)) rfl ?_
    refine Ops.gn rfl rfl rfl rfl rfl ?_
    refine Ops.gn rfl rfl rfl rfl rfl ?_
    refine Ops.u (Dtu.pickF (lk rfl) (lk rfl)) rfl ?_
    refine Ops.u (Dtu.mv (lk rfl)) rfl ?_
    refine Ops.gn rfl rfl rfl rfl rfl ?_
    refine Ops.gn rfl rfl rfl rfl rfl ?_
    refine Ops.gn rfl rfl rfl rfl rfl ?_
    refine Ops.gn rfl rfl rfl rfl rfl ?_
    refine Ops.u (Dtu.pickF (lk rfl) (lk rfl)) rfl ?_
    refine Ops.u (Dtu.asg (lk rfl)) rfl ?_
    refine Ops.nil ?_
    refine Then.next ?_
    refine Body.ret ?_
    (refine ⟨.inr rfl, _, pk [] rfl, bool_eq ?_, rfl⟩; simp; omega)
def Cell.Cols (c : Cell) : Prop := 0 ≤ c.fg ∧ c.fg < 4294967296 ∧ 0 ≤ c.bg ∧ c.bg < 4294967296
def View.rhas (v : View) (E : Env) (H : List HProp) (s : Value) : Prop := Sl E H 11 s v.cells.length (v.cells.flatMap Cell.renc)
theorem rright_ok (E : Env) (v : View) (s : Value) (h : v.rhas E [] s) (hc : ∀ c ∈ v.cells, c.Cols) : Does Try.prog 18 #[v.val s] E [] fun r H' => r = .bool v.ok ∧ H' = [] := by
  unfold View.rhas at h
  refine Does.pure h.len fun hlen => ?_
  refine Does.pure h.isSl fun hsl => ?_
  obtain ⟨a, m, k, rfl⟩ := hsl
  refine Does.go (args := [v.val (.slice a m k)]) _ _ Try.func18 rfl Try.ntmps18 rfl rfl ?_
  by_cases hf : (1 ≤ v.rows ∧ v.rows ≤ 12 ∧ 1 ≤ v.cols ∧ v.cols ≤ 40) ∧ 0 ≤ v.row ∧ v.row < v.rows ∧ 0 ≤ v.col ∧ v.col < v.cols ∧ (v.cells.length : Int) = IntKind.i64.wrap (v.rows * v.cols)
  · have hfit := View.fits_w.2 hf
    have hok : v.ok = !(v.cells.any fun c => !c.ok) := View.ok_yes hfit
    obtain ⟨⟨f1, f2, f3, f4⟩, f5, f6, f7, f8, f9⟩ := hf
    refine Body.seq ?_
    refine Body.region ?_
    refine Ops.s (Stp.box (lk rfl) rfl (fun b1 => ?_)) rfl
    refine Ops.u (Dtu.asg (lk rfl)) rfl ?_
    refine Ops.nil ?_
    refine Then.next ?_
    refine Body.seq ?_
    refine Body.seq ?_
    refine Body.region ?_
    refine Ops.u (Dtu.fld fa30_0 (lk rfl)) rfl ?_
    refine Ops.u (Dtu.fld fa28_0 (lk rfl)) rfl ?_
    refine Ops.d (Det.ld Try.isAgg3 (lk rfl) (Rd.ow 0 rfl rfl)) rfl ?_
    refine Ops.u (Dtu.lss (lk rfl) (lk rfl)) rfl ?_
    refine Ops.u (Dtu.mv (lk rfl)) rfl ?_
    refine Ops.decP 8 rfl (fun hy => absurd hy (by first | omega | assumption | decide)) (fun _ => ?_)
    refine Ops.gu rfl rfl rfl (Dtu.fld fa30_0 (lk rfl)) rfl ?_
    refine Ops.gu rfl rfl rfl (Dtu.fld fa28_0 (lk rfl)) rfl ?_
    refine Ops.gd rfl rfl rfl (Det.ld Try.isAgg3 (lk rfl) (Rd.ow 0 rfl rfl)) rfl ?_
    refine Ops.gu rfl rfl rfl (Dtu.gtr (lk rfl) (lk rfl)) rfl ?_
    refine Ops.u (Dtu.pickF (lk rfl) (lk rfl)) rfl ?_
    refine Ops.u (Dtu.mv (lk rfl)) rfl ?_
    refine Ops.decP 14 rfl (fun hy => absurd hy (by first | omega | assumption | decide)) (fun _ => ?_)
    refine Ops.gu rfl rfl rfl (Dtu.fld fa30_0 (lk rfl)) rfl ?_
    refine Ops.gu rfl rfl rfl (Dtu.fld fa28_1 (lk rfl)) rfl ?_
    refine Ops.gd rfl rfl rfl (Det.ld Try.isAgg3 (lk rfl) (Rd.ow 0 rfl rfl)) rfl ?_
    refine Ops.gu rfl rfl rfl (Dtu.lss (lk rfl) (lk rfl)) rfl ?_
    refine Ops.u (Dtu.pickF (lk rfl) (lk rfl)) rfl ?_
    refine Ops.u (Dtu.mv (lk rfl)) rfl ?_
    refine Ops.decP 20 rfl (fun hy => absurd hy (by first | omega | assumption | decide)) (fun _ => ?_)
    refine Ops.gu rfl rfl rfl (Dtu.fld fa30_0 (lk rfl)) rfl ?_
    refine Ops.gu rfl rfl rfl (Dtu.fld fa28_1 (lk rfl)) rfl ?_
    refine Ops.gd rfl rfl rfl (Det.ld Try.isAgg3 (lk rfl) (Rd.ow 0 rfl rfl)) rfl ?_
    refine Ops.gu rfl rfl rfl (Dtu.gtr (lk rfl) (lk rfl)) rfl ?_
    refine Ops.u (Dtu.pickF (lk rfl) (lk rfl)) rfl ?_
    refine Ops.u (Dtu.mv (lk rfl)) rfl ?_
    refine Ops.decP 26 rfl (fun hy => absurd hy (by first | omega | assumption | decide)) (fun _ => ?_)
    refine Ops.gu rfl rfl rfl (Dtu.fld fa30_0 (lk rfl)) rfl ?_
    refine Ops.gu rfl rfl rfl (Dtu.fld fa28_2 (lk rfl)) rfl ?_
    refine Ops.gd rfl rfl rfl (Det.ld Try.isAgg26 (lk rfl) (Rd.ow 0 rfl rfl)) rfl ?_
    refine Ops.gu rfl rfl rfl (Dtu.lenS Try.underlying26 (Sl.up h) (lk rfl)) rfl ?_
    refine Ops.gu rfl rfl rfl (Dtu.fld fa30_0 (lk rfl)) rfl ?_
    refine Ops.gu rfl rfl rfl (Dtu.fld fa28_0 (lk rfl)) rfl ?_
    refine Ops.gd rfl rfl rfl (Det.ld Try.isAgg3 (lk rfl) (Rd.ow 0 rfl rfl)) rfl ?_
    refine Ops.gu rfl rfl rfl (Dtu.fld fa30_0 (lk rfl)) rfl ?_
    refine Ops.gu rfl rfl rfl (Dtu.fld fa28_1 (lk rfl)) rfl ?_
    refine Ops.gd rfl rfl rfl (Det.ld Try.isAgg3 (lk rfl) (Rd.ow 0 rfl rfl)) rfl ?_
    refine Ops.gu rfl rfl rfl (Dtu.mul (lk rfl) (lk rfl) rfl) rfl ?_
    refine Ops.gu rfl rfl rfl (Dtu.neq (lk rfl) (lk rfl)) rfl ?_
    refine Ops.u (Dtu.pickF (lk rfl) (lk rfl)) rfl ?_
    refine Ops.u (Dtu.mv (lk rfl)) rfl ?_
    refine Ops.decP 40 rfl (fun hy => absurd hy (by first | omega | assumption | decide)) (fun _ => ?_)
    refine Ops.gu rfl rfl rfl (Dtu.fld fa30_0 (lk rfl)) rfl ?_
    refine Ops.gd rfl rfl rfl (Det.lda Try.isAgg28 Try.sizeOf28 (lk rfl) (Rds.ow (m := 3) 0 rfl rfl) rfl) rfl ?_
    refine Ops.gu rfl rfl rfl (Dtu.fld fa30_1 (lk rfl)) rfl ?_
    refine Ops.gd rfl rfl rfl (Det.ld Try.isAgg3 (lk rfl) (Rd.ow 0 rfl rfl)) rfl ?_
    refine Ops.gu rfl rfl rfl (Dtu.fld fa30_2 (lk rfl)) rfl ?_
    refine Ops.gd rfl rfl rfl (Det.ld Try.isAgg3 (lk rfl) (Rd.ow 0 rfl rfl)) rfl ?_
    refine Ops.gs rfl rfl rfl (Stp.call rfl Try.call60 (lks rfl) (fun E' le hat => rhas_ok E' _ _ _ _ _ _ _) ?_) rfl
    rintro _ _ ⟨rfl, rfl⟩
    refine Ops.gu rfl rfl rfl (Dtu.notP (lk rfl)) rfl ?_
    refine Ops.u (Dtu.pickF (lk rfl) (lk rfl)) rfl ?_
    refine Ops.nil ?_
    refine Then.next ?_
    refine Body.condP (lk rfl) (fun hy => absurd hy (by first | omega | assumption | decide)) (fun _ => ?_)
    refine Body.skip ?_
    refine Then.next ?_
    refine Body.seq ?_
    refine Body.seq ?_
    refine Body.region ?_
    refine Ops.u (Dtu.asg (lk rfl)) rfl ?_
    refine Ops.nil ?_
    refine Then.next ?_
    refine Body.block ?_
    refine Body.loopF (γ := Nat) rfl (fun k => [(3, .int .i64 k)]) (fun _ => [own b1 [.int .i64 v.rows, .int .i64 v.cols, .slice a m k, .int .i64 v.row, .int .i64 v.col, .bool v.vis] 30]) (fun k => k ≤ v.cells.length ∧ ∀ j, j < k → v.cells[j]!.ok = true) (fun k => v.cells.length - k) 0 ⟨by omega, fun j hj => by omega⟩ ⟨rfl, trivial⟩ rfl ?_
    rintro i u ⟨hi, hb⟩
    refine Body.seq ?_
    refine Body.seq ?_
    refine Body.region ?_
    refine Ops.u (Dtu.mv (lk rfl)) rfl ?_
    refine Ops.u (Dtu.fld fa30_0 (lk rfl)) rfl ?_
    refine Ops.u (Dtu.fld fa28_2 (lk rfl)) rfl ?_
    refine Ops.d (Det.ld Try.isAgg26 (lk rfl) (Rd.ow 0 rfl rfl)) rfl ?_
    refine Ops.u (Dtu.lenS Try.underlying26 (Sl.up h) (lk rfl)) rfl ?_
    refine Ops.u (Dtu.lss (lk rfl) (lk rfl)) rfl ?_
    refine Ops.nil ?_
    refine Then.next ?_
    refine Body.condP (lk rfl) (fun c55 => ?_) (fun c55 => ?_)
    · have hci : v.cells[i]!.Cols := by rw [getElem!_pos v.cells i (by omega)]; exact hc _ (List.getElem_mem _)
      refine Body.skip ?_
      refine Then.next ?_
      refine Body.seq ?_
      refine Body.block ?_
      refine Body.seq ?_
      refine Body.region ?_
      refine Ops.u (Dtu.fld fa30_0 (lk rfl)) rfl ?_
      refine Ops.u (Dtu.fld fa28_2 (lk rfl)) rfl ?_
      refine Ops.d (Det.ld Try.isAgg26 (lk rfl) (Rd.ow 0 rfl rfl)) rfl ?_
      refine Ops.u (Dtu.mv (lk rfl)) rfl ?_
      refine Ops.u (Dtu.ix (i := (i)) Try.underlying26 Try.sizeOf65 (Sl.up h) (lk rfl) (lk rfl) (by omega) (by omega)) rfl ?_
      refine Ops.d (Det.lda Try.isAgg65 Try.sizeOf65 (lk rfl) (Rds.sl (Sl.up h) (gf (sz := 11) (fun _ => rfl) (by omega))) rfl) rfl ?_
      refine Ops.s (Stp.call rfl Try.call36 (lks rfl) (fun E' le hat => risCell_ok E' ⟨_, _, _, _⟩ (by assumption)) ?_) rfl
      rintro _ _ ⟨rfl, rfl⟩
      refine Ops.u (Dtu.not (lk rfl)) rfl ?_
      refine Ops.nil ?_
      refine Then.next ?_
      refine Body.cond (lk rfl) (fun c65 => ?_) (fun c65 => ?_)
      · refine Body.seq ?_
        refine Body.region ?_
        refine Ops.u (Dtu.asg (lk rfl)) rfl ?_
        refine Ops.nil ?_
        refine Then.next ?_
        refine Body.ret ?_
        refine Blk.ret ?_
        refine Then.ret ?_
        refine Round.ret ?_
        refine Blk.ret ?_
        refine Then.ret ?_
        have c65' : (!v.cells[i]!.ok) = true := c65
        have hx : v.ok = false := by
          rw [hok, Bool.not_eq_false', List.any_eq_true]
          exact ⟨v.cells[i]!, by rw [getElem!_pos v.cells i (by omega)]; exact List.getElem_mem _, c65'⟩
        exact ⟨.inr rfl, _, pk [] rfl, by rw [hx]; rfl, rfl⟩
      · refine Body.skip ?_
        refine Blk.norm ?_
        refine Then.next ?_
        refine Body.region ?_
        refine Ops.u (Dtu.mv (lk rfl)) rfl ?_
        refine Ops.u (Dtu.add (lk rfl) (lk rfl) (w64 (by omega) (by omega))) rfl ?_
        refine Ops.u (Dtu.asg (lk rfl)) rfl ?_
        refine Ops.nil ?_
        have c65' : (!v.cells[i]!.ok) = false := c65
        refine Round.goF (i + 1) rfl rfl rfl ⟨int_eq (by omega), trivial⟩ rfl ⟨by omega, fun j hj => ?_⟩ (by omega)
        by_cases e : j = i
        · subst e; simpa using c65'
        · exact hb j (by omega)
    · refine Body.exit ?_
      refine Then.exit ?_
      refine Round.exit ?_
      refine Blk.here ?_
      refine Then.next ?_
      refine Body.seq ?_
      refine Body.region ?_
      refine Ops.u (Dtu.asg (lk rfl)) rfl ?_
      refine Ops.nil ?_
      refine Then.next ?_
      refine Body.ret ?_
      have hx : v.ok = true := by
        rw [hok, Bool.not_eq_true', List.any_eq_false]
        intro c hcm
        obtain ⟨j, hj, rfl⟩ := List.getElem_of_mem hcm
        have := hb j (by omega)
        rw [getElem!_pos v.cells j hj] at this
        simp [this]
      exact ⟨.inr rfl, _, pk [] rfl, by rw [hx]; rfl, rfl⟩
  · have hno : v.ok = false := View.ok_no (by rw [View.fits_w]; exact hf)
    refine Body.seq ?_
    refine Body.region ?_
    refine Ops.s (Stp.box (lk rfl) rfl (fun b1 => ?_)) rfl
    refine Ops.u (Dtu.asg (lk rfl)) rfl ?_
    refine Ops.nil ?_
    refine Then.next ?_
    refine Body.seq ?_
    refine Body.seq ?_
    refine Body.region ?_
    refine Ops.u (Dtu.fld fa30_0 (lk rfl)) rfl ?_
    refine Ops.u (Dtu.fld fa28_0 (lk rfl)) rfl ?_
    refine Ops.d (Det.ld Try.isAgg3 (lk rfl) (Rd.ow 0 rfl rfl)) rfl ?_
    refine Ops.u (Dtu.lss (lk rfl) (lk rfl)) rfl ?_
    refine Ops.u (Dtu.mv (lk rfl)) rfl ?_
    refine Ops.decP 8 rfl (fun c8 => ?_) (fun c8 => ?_)
    · refine Ops.gn rfl rfl rfl rfl rfl ?_
      refine Ops.gn rfl rfl rfl rfl rfl ?_
      refine Ops.gn rfl rfl rfl rfl rfl ?_
      refine Ops.gn rfl rfl rfl rfl rfl ?_
      refine Ops.u (Dtu.pickT (lk rfl) (lk rfl)) rfl ?_
      refine Ops.u (Dtu.mv (lk rfl)) rfl ?_
      refine Ops.gn rfl rfl rfl rfl rfl ?_
      refine Ops.gn rfl rfl rfl rfl rfl ?_
      refine Ops.gn rfl rfl rfl rfl rfl ?_
      refine Ops.gn rfl rfl rfl rfl rfl ?_
      refine Ops.u (Dtu.pickT (lk rfl) (lk rfl)) rfl ?_
      refine Ops.u (Dtu.mv (lk rfl)) rfl ?_
      refine Ops.gn rfl rfl rfl rfl rfl ?_
      refine Ops.gn rfl rfl rfl rfl rfl ?_
      refine Ops.gn rfl rfl rfl rfl rfl ?_
      refine Ops.gn rfl rfl rfl rfl rfl ?_
      refine Ops.u (Dtu.pickT (lk rfl) (lk rfl)) rfl ?_
      refine Ops.u (Dtu.mv (lk rfl)) rfl ?_
      refine Ops.gn rfl rfl rfl rfl rfl ?_
      refine Ops.gn rfl rfl rfl rfl rfl ?_
      refine Ops.gn rfl rfl rfl rfl rfl ?_
      refine Ops.gn rfl rfl rfl rfl rfl ?_
      refine Ops.gn rfl rfl rfl rfl rfl ?_
      refine Ops.gn rfl rfl rfl rfl rfl ?_
      refine Ops.gn rfl rfl rfl rfl rfl ?_
      refine Ops.gn rfl rfl rfl rfl rfl ?_
      refine Ops.gn rfl rfl rfl rfl rfl ?_
      refine Ops.gn rfl rfl rfl rfl rfl ?_
      refine Ops.gn rfl rfl rfl rfl rfl ?_
      refine Ops.gn rfl rfl rfl rfl rfl ?_
      refine Ops.u (Dtu.pickT (lk rfl) (lk rfl)) rfl ?_
      refine Ops.u (Dtu.mv (lk rfl)) rfl ?_
      refine Ops.gn rfl rfl rfl rfl rfl ?_
      refine Ops.gn rfl rfl rfl rfl rfl ?_
      refine Ops.gn rfl rfl rfl rfl rfl ?_
      refine Ops.gn rfl rfl rfl rfl rfl ?_
      refine Ops.gn rfl rfl rfl rfl rfl ?_
      refine Ops.gn rfl rfl rfl rfl rfl ?_
      refine Ops.gn rfl rfl rfl rfl rfl ?_
      refine Ops.gn rfl rfl rfl rfl rfl ?_
      refine Ops.u (Dtu.pickT (lk rfl) (lk rfl)) rfl ?_
      refine Ops.nil ?_
      refine Then.next ?_
      refine Body.condT (lk rfl) ?_
      refine Body.seq ?_
      refine Body.region ?_
      refine Ops.u (Dtu.asg (lk rfl)) rfl ?_
      refine Ops.nil ?_
      refine Then.next ?_
      refine Body.ret ?_
      refine Then.ret ?_
      (exact ⟨.inr rfl, _, pk [] rfl, by rw [hno]; rfl, rfl⟩)
    · refine Ops.gu rfl rfl rfl (Dtu.fld fa30_0 (lk rfl)) rfl ?_
      refine Ops.gu rfl rfl rfl (Dtu.fld fa28_0 (lk rfl)) rfl ?_
      refine Ops.gd rfl rfl rfl (Det.ld Try.isAgg3 (lk rfl) (Rd.ow 0 rfl rfl)) rfl ?_
      refine Ops.gu rfl rfl rfl (Dtu.gtr (lk rfl) (lk rfl)) rfl ?_
      refine Ops.u (Dtu.pickF (lk rfl) (lk rfl)) rfl ?_
      refine Ops.u (Dtu.mv (lk rfl)) rfl ?_
      refine Ops.decP 14 rfl (fun c14 => ?_) (fun c14 => ?_)
      · refine Ops.gn rfl rfl rfl rfl rfl ?_
        refine Ops.gn rfl rfl rfl rfl rfl ?_
        refine Ops.gn rfl rfl rfl rfl rfl ?_
        refine Ops.gn rfl rfl rfl rfl rfl ?_
        refine Ops.u (Dtu.pickT (lk rfl) (lk rfl)) rfl ?_
        refine Ops.u (Dtu.mv (lk rfl)) rfl ?_
        refine Ops.gn rfl rfl rfl rfl rfl ?_
        refine Ops.gn rfl rfl rfl rfl rfl ?_
        refine Ops.gn rfl rfl rfl rfl rfl ?_
        refine Ops.gn rfl rfl rfl rfl rfl ?_
        refine Ops.u (Dtu.pickT (lk rfl) (lk rfl)) rfl ?_
        refine Ops.u (Dtu.mv (lk rfl)) rfl ?_
        refine Ops.gn rfl rfl rfl rfl rfl ?_
        refine Ops.gn rfl rfl rfl rfl rfl ?_
        refine Ops.gn rfl rfl rfl rfl rfl ?_
        refine Ops.gn rfl rfl rfl rfl rfl ?_
        refine Ops.gn rfl rfl rfl rfl rfl ?_
        refine Ops.gn rfl rfl rfl rfl rfl ?_
        refine Ops.gn rfl rfl rfl rfl rfl ?_
        refine Ops.gn rfl rfl rfl rfl rfl ?_
        refine Ops.gn rfl rfl rfl rfl rfl ?_
        refine Ops.gn rfl rfl rfl rfl rfl ?_
        refine Ops.gn rfl rfl rfl rfl rfl ?_
        refine Ops.gn rfl rfl rfl rfl rfl ?_
        refine Ops.u (Dtu.pickT (lk rfl) (lk rfl)) rfl ?_
        refine Ops.u (Dtu.mv (lk rfl)) rfl ?_
        refine Ops.gn rfl rfl rfl rfl rfl ?_
        refine Ops.gn rfl rfl rfl rfl rfl ?_
        refine Ops.gn rfl rfl rfl rfl rfl ?_
        refine Ops.gn rfl rfl rfl rfl rfl ?_
        refine Ops.gn rfl rfl rfl rfl rfl ?_
        refine Ops.gn rfl rfl rfl rfl rfl ?_
        refine Ops.gn rfl rfl rfl rfl rfl ?_
        refine Ops.gn rfl rfl rfl rfl rfl ?_
        refine Ops.u (Dtu.pickT (lk rfl) (lk rfl)) rfl ?_
        refine Ops.nil ?_
        refine Then.next ?_
        refine Body.condT (lk rfl) ?_
        refine Body.seq ?_
        refine Body.region ?_
        refine Ops.u (Dtu.asg (lk rfl)) rfl ?_
        refine Ops.nil ?_
        refine Then.next ?_
        refine Body.ret ?_
        refine Then.ret ?_
        (exact ⟨.inr rfl, _, pk [] rfl, by rw [hno]; rfl, rfl⟩)
      · refine Ops.gu rfl rfl rfl (Dtu.fld fa30_0 (lk rfl)) rfl ?_
        refine Ops.gu rfl rfl rfl (Dtu.fld fa28_1 (lk rfl)) rfl ?_
        refine Ops.gd rfl rfl rfl (Det.ld Try.isAgg3 (lk rfl) (Rd.ow 0 rfl rfl)) rfl ?_
        refine Ops.gu rfl rfl rfl (Dtu.lss (lk rfl) (lk rfl)) rfl ?_
        refine Ops.u (Dtu.pickF (lk rfl) (lk rfl)) rfl ?_
        refine Ops.u (Dtu.mv (lk rfl)) rfl ?_
        refine Ops.decP 20 rfl (fun c20 => ?_) (fun c20 => ?_)
        · refine Ops.gn rfl rfl rfl rfl rfl ?_
          refine Ops.gn rfl rfl rfl rfl rfl ?_
          refine Ops.gn rfl rfl rfl rfl rfl ?_
          refine Ops.gn rfl rfl rfl rfl rfl ?_
          refine Ops.u (Dtu.pickT (lk rfl) (lk rfl)) rfl ?_
          refine Ops.u (Dtu.mv (lk rfl)) rfl ?_
          refine Ops.gn rfl rfl rfl rfl rfl ?_
          refine Ops.gn rfl rfl rfl rfl rfl ?_
          refine Ops.gn rfl rfl rfl rfl rfl ?_
          refine Ops.gn rfl rfl rfl rfl rfl ?_
          refine Ops.gn rfl rfl rfl rfl rfl ?_
          refine Ops.gn rfl rfl rfl rfl rfl ?_
          refine Ops.gn rfl rfl rfl rfl rfl ?_
          refine Ops.gn rfl rfl rfl rfl rfl ?_
          refine Ops.gn rfl rfl rfl rfl rfl ?_
          refine Ops.gn rfl rfl rfl rfl rfl ?_
          refine Ops.gn rfl rfl rfl rfl rfl ?_
          refine Ops.gn rfl rfl rfl rfl rfl ?_
          refine Ops.u (Dtu.pickT (lk rfl) (lk rfl)) rfl ?_
          refine Ops.u (Dtu.mv (lk rfl)) rfl ?_
          refine Ops.gn rfl rfl rfl rfl rfl ?_
          refine Ops.gn rfl rfl rfl rfl rfl ?_
          refine Ops.gn rfl rfl rfl rfl rfl ?_
          refine Ops.gn rfl rfl rfl rfl rfl ?_
          refine Ops.gn rfl rfl rfl rfl rfl ?_
          refine Ops.gn rfl rfl rfl rfl rfl ?_
          refine Ops.gn rfl rfl rfl rfl rfl ?_
          refine Ops.gn rfl rfl rfl rfl rfl ?_
          refine Ops.u (Dtu.pickT (lk rfl) (lk rfl)) rfl ?_
          refine Ops.nil ?_
          refine Then.next ?_
          refine Body.condT (lk rfl) ?_
          refine Body.seq ?_
          refine Body.region ?_
          refine Ops.u (Dtu.asg (lk rfl)) rfl ?_
          refine Ops.nil ?_
          refine Then.next ?_
          refine Body.ret ?_
          refine Then.ret ?_
          (exact ⟨.inr rfl, _, pk [] rfl, by rw [hno]; rfl, rfl⟩)
        · refine Ops.gu rfl rfl rfl (Dtu.fld fa30_0 (lk rfl)) rfl ?_
          refine Ops.gu rfl rfl rfl (Dtu.fld fa28_1 (lk rfl)) rfl ?_
          refine Ops.gd rfl rfl rfl (Det.ld Try.isAgg3 (lk rfl) (Rd.ow 0 rfl rfl)) rfl ?_
          refine Ops.gu rfl rfl rfl (Dtu.gtr (lk rfl) (lk rfl)) rfl ?_
          refine Ops.u (Dtu.pickF (lk rfl) (lk rfl)) rfl ?_
          refine Ops.u (Dtu.mv (lk rfl)) rfl ?_
          refine Ops.decP 26 rfl (fun c26 => ?_) (fun c26 => ?_)
          · refine Ops.gn rfl rfl rfl rfl rfl ?_
            refine Ops.gn rfl rfl rfl rfl rfl ?_
            refine Ops.gn rfl rfl rfl rfl rfl ?_
            refine Ops.gn rfl rfl rfl rfl rfl ?_
            refine Ops.gn rfl rfl rfl rfl rfl ?_
            refine Ops.gn rfl rfl rfl rfl rfl ?_
            refine Ops.gn rfl rfl rfl rfl rfl ?_
            refine Ops.gn rfl rfl rfl rfl rfl ?_
            refine Ops.gn rfl rfl rfl rfl rfl ?_
            refine Ops.gn rfl rfl rfl rfl rfl ?_
            refine Ops.gn rfl rfl rfl rfl rfl ?_
            refine Ops.gn rfl rfl rfl rfl rfl ?_
            refine Ops.u (Dtu.pickT (lk rfl) (lk rfl)) rfl ?_
            refine Ops.u (Dtu.mv (lk rfl)) rfl ?_
            refine Ops.gn rfl rfl rfl rfl rfl ?_
            refine Ops.gn rfl rfl rfl rfl rfl ?_
            refine Ops.gn rfl rfl rfl rfl rfl ?_
            refine Ops.gn rfl rfl rfl rfl rfl ?_
            refine Ops.gn rfl rfl rfl rfl rfl ?_
            refine Ops.gn rfl rfl rfl rfl rfl ?_
            refine Ops.gn rfl rfl rfl rfl rfl ?_
            refine Ops.gn rfl rfl rfl rfl rfl ?_
            refine Ops.u (Dtu.pickT (lk rfl) (lk rfl)) rfl ?_
            refine Ops.nil ?_
            refine Then.next ?_
            refine Body.condT (lk rfl) ?_
            refine Body.seq ?_
            refine Body.region ?_
            refine Ops.u (Dtu.asg (lk rfl)) rfl ?_
            refine Ops.nil ?_
            refine Then.next ?_
            refine Body.ret ?_
            refine Then.ret ?_
            (exact ⟨.inr rfl, _, pk [] rfl, by rw [hno]; rfl, rfl⟩)
          · refine Ops.gu rfl rfl rfl (Dtu.fld fa30_0 (lk rfl)) rfl ?_
            refine Ops.gu rfl rfl rfl (Dtu.fld fa28_2 (lk rfl)) rfl ?_
            refine Ops.gd rfl rfl rfl (Det.ld Try.isAgg26 (lk rfl) (Rd.ow 0 rfl rfl)) rfl ?_
            refine Ops.gu rfl rfl rfl (Dtu.lenS Try.underlying26 (Sl.up h) (lk rfl)) rfl ?_
            refine Ops.gu rfl rfl rfl (Dtu.fld fa30_0 (lk rfl)) rfl ?_
            refine Ops.gu rfl rfl rfl (Dtu.fld fa28_0 (lk rfl)) rfl ?_
            refine Ops.gd rfl rfl rfl (Det.ld Try.isAgg3 (lk rfl) (Rd.ow 0 rfl rfl)) rfl ?_
            refine Ops.gu rfl rfl rfl (Dtu.fld fa30_0 (lk rfl)) rfl ?_
            refine Ops.gu rfl rfl rfl (Dtu.fld fa28_1 (lk rfl)) rfl ?_
            refine Ops.gd rfl rfl rfl (Det.ld Try.isAgg3 (lk rfl) (Rd.ow 0 rfl rfl)) rfl ?_
            refine Ops.gu rfl rfl rfl (Dtu.mul (lk rfl) (lk rfl) rfl) rfl ?_
            refine Ops.gu rfl rfl rfl (Dtu.neq (lk rfl) (lk rfl)) rfl ?_
            refine Ops.u (Dtu.pickF (lk rfl) (lk rfl)) rfl ?_
            refine Ops.u (Dtu.mv (lk rfl)) rfl ?_
            refine Ops.decP 40 rfl (fun c40 => ?_) (fun c40 => ?_)
            · refine Ops.gn rfl rfl rfl rfl rfl ?_
              refine Ops.gn rfl rfl rfl rfl rfl ?_
              refine Ops.gn rfl rfl rfl rfl rfl ?_
              refine Ops.gn rfl rfl rfl rfl rfl ?_
              refine Ops.gn rfl rfl rfl rfl rfl ?_
              refine Ops.gn rfl rfl rfl rfl rfl ?_
              refine Ops.gn rfl rfl rfl rfl rfl ?_
              refine Ops.gn rfl rfl rfl rfl rfl ?_
              refine Ops.u (Dtu.pickT (lk rfl) (lk rfl)) rfl ?_
              refine Ops.nil ?_
              refine Then.next ?_
              refine Body.condT (lk rfl) ?_
              refine Body.seq ?_
              refine Body.region ?_
              refine Ops.u (Dtu.asg (lk rfl)) rfl ?_
              refine Ops.nil ?_
              refine Then.next ?_
              refine Body.ret ?_
              refine Then.ret ?_
              (exact ⟨.inr rfl, _, pk [] rfl, by rw [hno]; rfl, rfl⟩)
            · refine Ops.gu rfl rfl rfl (Dtu.fld fa30_0 (lk rfl)) rfl ?_
              refine Ops.gd rfl rfl rfl (Det.lda Try.isAgg28 Try.sizeOf28 (lk rfl) (Rds.ow (m := 3) 0 rfl rfl) rfl) rfl ?_
              refine Ops.gu rfl rfl rfl (Dtu.fld fa30_1 (lk rfl)) rfl ?_
              refine Ops.gd rfl rfl rfl (Det.ld Try.isAgg3 (lk rfl) (Rd.ow 0 rfl rfl)) rfl ?_
              refine Ops.gu rfl rfl rfl (Dtu.fld fa30_2 (lk rfl)) rfl ?_
              refine Ops.gd rfl rfl rfl (Det.ld Try.isAgg3 (lk rfl) (Rd.ow 0 rfl rfl)) rfl ?_
              refine Ops.gs rfl rfl rfl (Stp.call rfl Try.call60 (lks rfl) (fun E' le hat => rhas_ok E' _ _ _ _ _ _ _) ?_) rfl
              rintro _ _ ⟨rfl, rfl⟩
              refine Ops.gu rfl rfl rfl (Dtu.notP (lk rfl)) rfl ?_
              refine Ops.u (Dtu.pickF (lk rfl) (lk rfl)) rfl ?_
              refine Ops.nil ?_
              refine Then.next ?_
              refine Body.condP (lk rfl) (fun _ => ?_) (fun hn => absurd (by first | omega | assumption | decide) hn)
              refine Body.seq ?_
              refine Body.region ?_
              refine Ops.u (Dtu.asg (lk rfl)) rfl ?_
              refine Ops.nil ?_
              refine Then.next ?_
              refine Body.ret ?_
              refine Then.ret ?_
              (exact ⟨.inr rfl, _, pk [] rfl, by rw [hno]; rfl, rfl⟩)
end Go.Proofs.Ytijjjdljdjnbaaa
end
section
/- The document's views: of the program's ones; their bytes. -/
namespace Go.Proofs.Ytijjjdljdjnbaaa
set_option maxRecDepth 100000
set_option linter.unusedVariables false
set_option linter.unusedSimpArgs false
open Go.Sx

theorem take_snocC {α : Type} [Inhabited α] {l : List α} {i : Nat} (h : i < l.length) : l.take (i + 1) = l.take i ++ [l[i]!] := by
  rw [List.take_succ_eq_append_getElem h, getElem!_pos l i h]
theorem as20_ok (E : Env) (v : View) (s : Value) (h : v.has E [] s) (hf : ∀ c ∈ v.cells, c.Fl) (hn : v.cells.length ≤ 1000) : Does Try.prog 16 #[v.val s] E [] fun r H' => ∃ (ta : Option Addr) (tm tc : Nat), r = v.val (.slice ta tm tc) ∧ H' = [osl 65 11 (.slice ta tm tc) v.cells.length (v.cells.flatMap Cell.renc)] := by
  unfold View.has at h
  refine Does.pure h.len fun hlen => ?_
  refine Does.pure h.isSl fun hs => ?_
  obtain ⟨a, m, k, rfl⟩ := hs
  obtain ⟨r1, c1, l1, o1, q1, v1⟩ := v
  dsimp only at h hf hlen hn
  refine Does.go (args := [View.val ⟨r1, c1, l1, o1, q1, v1⟩ (.slice a m k)]) _ _ Try.func16 rfl Try.ntmps16 rfl rfl ?_
  refine Body.seq ?_
  refine Body.region ?_
  refine Ops.s (Stp.box (lk rfl) rfl (fun b1 => ?_)) rfl
  refine Ops.s (Stp.alloc ty30 (fun b2 => ?_)) rfl
  refine Ops.nil ?_
  refine Then.next ?_
  refine Body.seq ?_
  refine Body.region ?_
  refine Ops.u (Dtu.fld fa24_0 (lk rfl)) rfl ?_
  refine Ops.d (Det.ld Try.isAgg3 (lk rfl) (Rd.ow 1 rfl rfl)) rfl ?_
  refine Ops.u (Dtu.fld fa24_1 (lk rfl)) rfl ?_
  refine Ops.d (Det.ld Try.isAgg3 (lk rfl) (Rd.ow 1 rfl rfl)) rfl ?_
  refine Ops.u (Dtu.build ty28 pl28 (lkp rfl) rfl rfl) rfl ?_
  refine Ops.u (Dtu.fld fa24_3 (lk rfl)) rfl ?_
  refine Ops.d (Det.ld Try.isAgg3 (lk rfl) (Rd.ow 1 rfl rfl)) rfl ?_
  refine Ops.u (Dtu.fld fa24_4 (lk rfl)) rfl ?_
  refine Ops.d (Det.ld Try.isAgg3 (lk rfl) (Rd.ow 1 rfl rfl)) rfl ?_
  refine Ops.u (Dtu.fld fa24_5 (lk rfl)) rfl ?_
  refine Ops.d (Det.ld Try.isAgg4 (lk rfl) (Rd.ow 1 rfl rfl)) rfl ?_
  refine Ops.u (Dtu.build ty30 pl30 (lkp rfl) rfl rfl) rfl ?_
  refine Ops.s (Stp.alloc ty30 (fun b3 => ?_)) rfl
  refine Ops.e (Stp.store 0 Try.sizeOf30 (lk rfl) (lk rfl) rfl rfl rfl rfl rfl rfl rfl ?_)
  refine Ops.nil ?_
  refine Then.next ?_
  refine Body.seq ?_
  refine Body.seq ?_
  refine Body.region ?_
  refine Ops.u (Dtu.asg (lk rfl)) rfl ?_
  refine Ops.nil ?_
  refine Then.next ?_
  refine Body.block ?_
  refine Body.conseq (H' := [osl 65 11 (.slice none 0 0) 0 [], own b3 [.int .i64 r1, .int .i64 c1, .slice none 0 0, .int .i64 o1, .int .i64 q1, .bool v1] 30,
      own b2 [.int .i64 0, .int .i64 0, .slice none 0 0, .int .i64 0, .int .i64 0, .bool false] 30, own b1 [.int .i64 r1, .int .i64 c1, .slice a m k, .int .i64 o1, .int .i64 q1, .bool v1] 24]) (fun w s => osl_nil s) ?_
  refine Body.loopF (γ := Nat × Value) rfl (fun g => [(4, .int .i64 g.1)]) (fun g => [osl 65 11 g.2 g.1 ((l1.take g.1).flatMap Cell.renc), own b3 [.int .i64 r1, .int .i64 c1, g.2, .int .i64 o1, .int .i64 q1, .bool v1] 30,
      own b2 [.int .i64 0, .int .i64 0, .slice none 0 0, .int .i64 0, .int .i64 0, .bool false] 30, own b1 [.int .i64 r1, .int .i64 c1, .slice a m k, .int .i64 o1, .int .i64 q1, .bool v1] 24]) (fun g => g.1 ≤ l1.length) (fun g => l1.length - g.1) (0, .slice none 0 0) (by simp) ⟨rfl, trivial⟩ rfl ?_
  rintro ⟨i, O⟩ u hi
  dsimp only at hi ⊢
  refine Body.seq ?_
  refine Body.seq ?_
  refine Body.region ?_
  refine Ops.u (Dtu.mv (lk rfl)) rfl ?_
  refine Ops.u (Dtu.fld fa24_2 (lk rfl)) rfl ?_
  refine Ops.d (Det.ld Try.isAgg22 (lk rfl) (Rd.ow 3 rfl rfl)) rfl ?_
  refine Ops.u (Dtu.lenS Try.underlying22 (Sl.up h) (lk rfl)) rfl ?_
  refine Ops.u (Dtu.lss (lk rfl) (lk rfl)) rfl ?_
  refine Ops.nil ?_
  refine Then.next ?_
  refine Body.condP (lk rfl) (fun c21 => ?_) (fun c21 => ?_)
  · have q1 : l1[i]!.Fl := by rw [getElem!_pos l1 i (by omega)]; exact hf _ (List.getElem_mem _)
    obtain ⟨q1, q2⟩ := q1
    refine Body.skip ?_
    refine Then.next ?_
    refine Body.seq ?_
    refine Body.block ?_
    refine Body.draw mixed ?_
    refine AB.u 0 rfl (by decide +kernel) (Dtu.fld fa30_0 (lk rfl)) rfl ?_
    refine AB.u 1 rfl (by decide +kernel) (Dtu.fld fa28_2 (lk rfl)) rfl ?_
    refine AB.d 2 rfl (by decide +kernel) rfl (Det.ld Try.isAgg26 (lk rfl) (Rd.ow 1 rfl rfl)) rfl ?_
    refine AB.u 3 rfl (by decide +kernel) (Dtu.fld fa24_2 (lk rfl)) rfl ?_
    refine AB.d 4 rfl (by decide +kernel) rfl (Det.ld Try.isAgg22 (lk rfl) (Rd.ow 3 rfl rfl)) rfl ?_
    refine AB.u 5 rfl (by decide +kernel) (Dtu.mv (lk rfl)) rfl ?_
    refine AB.u 6 rfl (by decide +kernel) (Dtu.ix (i := (i)) Try.underlying22 Try.sizeOf55 (Sl.up h) (lk rfl) (lk rfl) (by omega) (by omega)) rfl ?_
    refine AB.d 7 rfl (by decide +kernel) rfl (Det.lda Try.isAgg55 Try.sizeOf55 (lk rfl) (Rds.sl (Sl.up h) (gf (sz := 4) (fun _ => rfl) (by omega))) rfl) rfl ?_
    refine AB.s 8 rfl (by decide +kernel) (by decide +kernel) (Stp.call rfl Try.call32 (lks rfl) (fun E' le hat => cell17_ok E' _ _ _ _ (by first | assumption | omega) (by first | assumption | omega)) ?_) rfl
    rintro _ _ ⟨rfl, rfl⟩
    refine AB.s 9 rfl (by decide +kernel) (by decide +kernel) (Stp.buildSliceO Try.underlying26 ty65 (by decide) (by decide) (lkp rfl) rfl rfl rfl (by decide) (fun v33 => ?_)) rfl
    refine AB.s 10 rfl (by decide +kernel) (by decide +kernel) (Stp.append 1 Try.underlying26 ty65 rfl rfl (lk rfl) (lk rfl) (Sl.osl 0 rfl) (by first | rfl | exact all_map (fun _ => rfl) _ | exact all_flat (fun _ => rfl) _) (by omega) (by omega) (fun v34 => ?_)) rfl
    refine AB.u 11 rfl (by decide +kernel) (Dtu.fld fa30_0 (lk rfl)) rfl ?_
    refine AB.u 12 rfl (by decide +kernel) (Dtu.fld fa28_2 (lk rfl)) rfl ?_
    refine AB.pure (Sl.isSl (Sl.osl 1 rfl)) fun h34 => ?_
    obtain ⟨z1, z2, z3, rfl⟩ := h34
    refine AB.e 13 rfl (by decide +kernel) (by decide +kernel) (Stp.store 2 Try.sizeOf26 (lk rfl) (lk rfl) rfl rfl rfl rfl rfl rfl rfl ?_)
    refine AB.done (by decide +kernel) ?_
    refine Blk.norm ?_
    refine Then.next ?_
    refine Body.region ?_
    refine Ops.u (Dtu.mv (lk rfl)) rfl ?_
    refine Ops.u (Dtu.add (lk rfl) (lk rfl) (w64 (by omega) (by omega))) rfl ?_
    refine Ops.u (Dtu.asg (lk rfl)) rfl ?_
    refine Ops.nil ?_
    refine Round.goK [1, 1, 1, 1] (i + 1, .slice z1 z2 z3) rfl rfl rfl ⟨int_eq (by simp), trivial⟩ rfl ?_ (by dsimp only; omega) (by dsimp only; omega)
    rw [take_snocC (by omega), List.flatMap_append]
    simp [Cell.renc, rsty]
  · refine Body.pure (Sl.isSl (Sl.osl 0 rfl)) fun hO => ?_
    obtain ⟨z1, z2, z3, rfl⟩ := hO
    obtain rfl : i = l1.length := by omega
    refine Body.exit ?_
    refine Then.exit ?_
    refine Round.exit ?_
    refine Blk.here ?_
    refine Then.next ?_
    refine Body.seq ?_
    refine Body.region ?_
    refine Ops.d (Det.lda Try.isAgg30 Try.sizeOf30 (lk rfl) (Rds.ow (m := 6) 1 rfl rfl) rfl) rfl ?_
    refine Ops.e (Stp.store 2 Try.sizeOf30 (lk rfl) (lk rfl) rfl rfl rfl rfl rfl rfl rfl ?_)
    refine Ops.nil ?_
    refine Then.next ?_
    refine Body.ret ?_
    exact ⟨.inr rfl, _, Loads.agg Try.isAgg30 Try.sizeOf30 (Rds.ow (m := 6) 2 rfl rfl) rfl, _, pk [0] rfl, z1, z2, z3, rfl, by rw [List.take_length]⟩
end Go.Proofs.Ytijjjdljdjnbaaa
end
section
/- The document's views: their bytes. -/
namespace Go.Proofs.Ytijjjdljdjnbaaa
set_option maxRecDepth 100000
set_option linter.unusedVariables false
set_option linter.unusedSimpArgs false
open Go.Sx

end Go.Proofs.Ytijjjdljdjnbaaa
end
section
/- The document's views out of bytes. -/
namespace Go.Proofs.Ytijjjdljdjnbaaa
set_option maxRecDepth 100000
set_option linter.unusedVariables false
set_option linter.unusedSimpArgs false
open Go.Sx

end Go.Proofs.Ytijjjdljdjnbaaa
end
section
/- ViewBytes: what it computes. -/
namespace Go.Proofs.Ytijjjdljdjnbaaa
set_option maxRecDepth 100000
set_option linter.unusedVariables false
set_option linter.unusedSimpArgs false
open Go.Sx

end Go.Proofs.Ytijjjdljdjnbaaa
end
