/- Qf: RefH, RefI, RefJ, RefK, RefL. -/
import Derived.Test.YtijjjdljdjnbaaaQa
import Derived.Test.YtijjjdljdjnbaaaQb
import Derived.Test.YtijjjdljdjnbaaaQc
import Derived.Test.YtijjjdljdjnbaaaQd
import Derived.Test.YtijjjdljdjnbaaaQe
section
/- The document's views: which may be, which are the same. -/
namespace Go.Proofs.Ytijjjdljdjnbaaa
set_option maxRecDepth 100000
set_option linter.unusedVariables false
set_option linter.unusedSimpArgs false
open Go.Sx

theorem renc_len (l : List Cell) : (l.flatMap Cell.renc).length = l.length * 11 := by
  induction l with
  | nil => rfl
  | cons c t ih => simp only [List.flatMap_cons, List.length_append, ih, List.length_cons]; simp [Cell.renc, rsty]; omega
theorem rhas_ok (E : Env) (R C r c : Int) (a : Option Addr) (m k : Nat) : Does Try.prog 60 #[.agg #[.int .i64 R, .int .i64 C, .slice a m k], .int .i64 r, .int .i64 c] E [] fun v H' => v = .bool (decide (0 ≤ r ∧ r < R ∧ 0 ≤ c ∧ c < C)) ∧ H' = [] := by
  refine Does.go (args := [.agg #[.int .i64 R, .int .i64 C, .slice a m k], .int .i64 r, .int .i64 c]) _ _ Try.func60 rfl Try.ntmps60 rfl rfl ?_
  refine Body.seq ?_
  refine Body.region ?_
  refine Ops.s (Stp.box (lk rfl) rfl (fun b3 => ?_)) rfl
  refine Ops.u (Dtu.asg (lk rfl)) rfl ?_
  refine Ops.nil ?_
  refine Then.next ?_
  refine Body.seq ?_
  refine Body.region ?_
  refine Ops.u (Dtu.mv (lk rfl)) rfl ?_
  refine Ops.u (Dtu.geq (lk rfl) (lk rfl)) rfl ?_
  refine Ops.u (Dtu.mv (lk rfl)) rfl ?_
  refine Ops.decP 9 rfl (fun c9 => ?_) (fun c9 => ?_)
  · refine Ops.gu rfl rfl rfl (Dtu.mv (lk rfl)) rfl ?_
    refine Ops.gu rfl rfl rfl (Dtu.fld fa28_0 (lk rfl)) rfl ?_
    refine Ops.gd rfl rfl rfl (Det.ld Try.isAgg3 (lk rfl) (Rd.ow 0 rfl rfl)) rfl ?_
    refine Ops.gu rfl rfl rfl (Dtu.lss (lk rfl) (lk rfl)) rfl ?_
    refine Ops.u (Dtu.pickT (lk rfl) (lk rfl)) rfl ?_
    refine Ops.u (Dtu.mv (lk rfl)) rfl ?_
    refine Ops.decP 15 rfl (fun c15 => ?_) (fun c15 => ?_)
    · refine Ops.gu rfl rfl rfl (Dtu.mv (lk rfl)) rfl ?_
      refine Ops.gu rfl rfl rfl (Dtu.geq (lk rfl) (lk rfl)) rfl ?_
      refine Ops.u (Dtu.pickT (lk rfl) (lk rfl)) rfl ?_
      refine Ops.u (Dtu.mv (lk rfl)) rfl ?_
      refine Ops.decP 19 rfl (fun c19 => ?_) (fun c19 => ?_)
      · refine Ops.gu rfl rfl rfl (Dtu.mv (lk rfl)) rfl ?_
        refine Ops.gu rfl rfl rfl (Dtu.fld fa28_1 (lk rfl)) rfl ?_
        refine Ops.gd rfl rfl rfl (Det.ld Try.isAgg3 (lk rfl) (Rd.ow 0 rfl rfl)) rfl ?_
        refine Ops.gu rfl rfl rfl (Dtu.lss (lk rfl) (lk rfl)) rfl ?_
        refine Ops.u (Dtu.pickT (lk rfl) (lk rfl)) rfl ?_
        refine Ops.u (Dtu.asg (lk rfl)) rfl ?_
        refine Ops.nil ?_
        refine Then.next ?_
        refine Body.ret ?_
        (refine ⟨.inr rfl, _, pk [] rfl, bool_eq ?_, rfl⟩; simp; omega)
      · refine Ops.gn rfl rfl rfl rfl rfl ?_
        refine Ops.gn rfl rfl rfl rfl rfl ?_
        refine Ops.gn rfl rfl rfl rfl rfl ?_
        refine Ops.gn rfl rfl rfl rfl rfl ?_
        refine Ops.u (Dtu.pickF (lk rfl) (lk rfl)) rfl ?_
        refine Ops.u (Dtu.asg (lk rfl)) rfl ?_
        refine Ops.nil ?_
        refine Then.next ?_
        refine Body.ret ?_
        (refine ⟨.inr rfl, _, pk [] rfl, bool_eq ?_, rfl⟩; simp; omega)
    · refine Ops.gn rfl rfl rfl rfl rfl ?_
      refine Ops.gn rfl rfl rfl rfl rfl ?_
      refine Ops.u (Dtu.pickF (lk rfl) (lk rfl)) rfl ?_
      refine Ops.u (Dtu.mv (lk rfl)) rfl ?_
      refine Ops.gn rfl rfl rfl rfl rfl ?_
      refine Ops.gn rfl rfl rfl rfl rfl ?_
      refine Ops.gn rfl rfl rfl rfl rfl ?_
      refine Ops.gn rfl rfl rfl rfl rfl ?_
      refine Ops.u (Dtu.pickF (lk rfl) (lk rfl)) rfl ?_
      refine Ops.u (Dtu.asg (lk rfl)) rfl ?_
      refine Ops.nil ?_
      refine Then.next ?_
      refine Body.ret ?_
      (refine ⟨.inr rfl, _, pk [] rfl, bool_eq ?_, rfl⟩; simp; omega)
  · refine Ops.gn rfl rfl rfl rfl rfl ?_
    refine Ops.gn rfl rfl rfl rfl rfl ?_
    refine Ops.gn rfl rfl rfl rfl rfl ?_
    refine Ops.gn rfl rfl rfl rfl rfl ?_
    refine Ops.u (Dtu.pickF (lk rfl) (lk rfl)) rfl ?_
    refine Ops.u (Dtu.mv (lk rfl)) rfl ?_
    refine Ops.gn rfl rfl rfl rfl rfl ?_
    refine Ops.gn rfl rfl rfl rfl rfl ?_
    refine Ops.u (Dtu.pickF (lk rfl) (lk rfl)) rfl ?_
    refine Ops.u (Dtu.mv (lk rfl)) rfl ?_
    refine Ops.gn rfl rfl rfl rfl rfl ?_
    refine Ops.gn rfl rfl rfl rfl rfl ?_
    refine Ops.gn rfl rfl rfl rfl rfl ?_
    refine Ops.gn rfl rfl rfl rfl rfl ?_
    refine Ops.u (Dtu.pickF (lk rfl) (lk rfl)) rfl ?_
    refine Ops.u (Dtu.asg (lk rfl)) rfl ?_
    refine Ops.nil ?_
    refine Then.next ?_
    refine Body.ret ?_
    (refine ⟨.inr rfl, _, pk [] rfl, bool_eq ?_, rfl⟩; simp; omega)
def Cell.Cols (c : Cell) : Prop := 0 ≤ c.fg ∧ c.fg < 4294967296 ∧ 0 ≤ c.bg ∧ c.bg < 4294967296
def View.rhas (v : View) (E : Env) (H : List HProp) (s : Value) : Prop := Sl E H 11 s v.cells.length (v.cells.flatMap Cell.renc)
theorem rright_ok (E : Env) (v : View) (s : Value) (h : v.rhas E [] s) (hc : ∀ c ∈ v.cells, c.Cols) : Does Try.prog 18 #[v.val s] E [] fun r H' => r = .bool v.ok ∧ H' = [] := by
  unfold View.rhas at h
  refine Does.pure h.len fun hlen => ?_
  refine Does.pure h.isSl fun hsl => ?_
  obtain ⟨a, m, k, rfl⟩ := hsl
  refine Does.go (args := [v.val (.slice a m k)]) _ _ Try.func18 rfl Try.ntmps18 rfl rfl ?_
  by_cases hf : (1 ≤ v.rows ∧ v.rows ≤ 12 ∧ 1 ≤ v.cols ∧ v.cols ≤ 40) ∧ 0 ≤ v.row ∧ v.row < v.rows ∧ 0 ≤ v.col ∧ v.col < v.cols ∧ (v.cells.length : Int) = IntKind.i64.wrap (v.rows * v.cols)
  · have hfit := View.fits_w.2 hf
    have hok : v.ok = !(v.cells.any fun c => !c.ok) := View.ok_yes hfit
    obtain ⟨⟨f1, f2, f3, f4⟩, f5, f6, f7, f8, f9⟩ := hf
    refine Body.seq ?_
    refine Body.region ?_
    refine Ops.s (Stp.box (lk rfl) rfl (fun b1 => ?_)) rfl
    refine Ops.u (Dtu.asg (lk rfl)) rfl ?_
    refine Ops.nil ?_
    refine Then.next ?_
    refine Body.seq ?_
    refine Body.seq ?_
    refine Body.region ?_
    refine Ops.u (Dtu.fld fa30_0 (lk rfl)) rfl ?_
    refine Ops.u (Dtu.fld fa28_0 (lk rfl)) rfl ?_
    refine Ops.d (Det.ld Try.isAgg3 (lk rfl) (Rd.ow 0 rfl rfl)) rfl ?_
    refine Ops.u (Dtu.lss (lk rfl) (lk rfl)) rfl ?_
    refine Ops.u (Dtu.mv (lk rfl)) rfl ?_
    refine Ops.decP 8 rfl (fun hy => absurd hy (by first | omega | assumption | decide)) (fun _ => ?_)
    refine Ops.gu rfl rfl rfl (Dtu.fld fa30_0 (lk rfl)) rfl ?_
    refine Ops.gu rfl rfl rfl (Dtu.fld fa28_0 (lk rfl)) rfl ?_
    refine Ops.gd rfl rfl rfl (Det.ld Try.isAgg3 (lk rfl) (Rd.ow 0 rfl rfl)) rfl ?_
    refine Ops.gu rfl rfl rfl (Dtu.gtr (lk rfl) (lk rfl)) rfl ?_
    refine Ops.u (Dtu.pickF (lk rfl) (lk rfl)) rfl ?_
    refine Ops.u (Dtu.mv (lk rfl)) rfl ?_
    refine Ops.decP 14 rfl (fun hy => absurd hy (by first | omega | assumption | decide)) (fun _ => ?_)
    refine Ops.gu rfl rfl rfl (Dtu.fld fa30_0 (lk rfl)) rfl ?_
    refine Ops.gu rfl rfl rfl (Dtu.fld fa28_1 (lk rfl)) rfl ?_
    refine Ops.gd rfl rfl rfl (Det.ld Try.isAgg3 (lk rfl) (Rd.ow 0 rfl rfl)) rfl ?_
    refine Ops.gu rfl rfl rfl (Dtu.lss (lk rfl) (lk rfl)) rfl ?_
    refine Ops.u (Dtu.pickF (lk rfl) (lk rfl)) rfl ?_
    refine Ops.u (Dtu.mv (lk rfl)) rfl ?_
    refine Ops.decP 20 rfl (fun hy => absurd hy (by first | omega | assumption | decide)) (fun _ => ?_)
    refine Ops.gu rfl rfl rfl (Dtu.fld fa30_0 (lk rfl)) rfl ?_
    refine Ops.gu rfl rfl rfl (Dtu.fld fa28_1 (lk rfl)) rfl ?_
    refine Ops.gd rfl rfl rfl (Det.ld Try.isAgg3 (lk rfl) (Rd.ow 0 rfl rfl)) rfl ?_
    refine Ops.gu rfl rfl rfl (Dtu.gtr (lk rfl) (lk rfl)) rfl ?_
    refine Ops.u (Dtu.pickF (lk rfl) (lk rfl)) rfl ?_
    refine Ops.u (Dtu.mv (lk rfl)) rfl ?_
    refine Ops.decP 26 rfl (fun hy => absurd hy (by first | omega | assumption | decide)) (fun _ => ?_)
    refine Ops.gu rfl rfl rfl (Dtu.fld fa30_0 (lk rfl)) rfl ?_
    refine Ops.gu rfl rfl rfl (Dtu.fld fa28_2 (lk rfl)) rfl ?_
    refine Ops.gd rfl rfl rfl (Det.ld Try.isAgg26 (lk rfl) (Rd.ow 0 rfl rfl)) rfl ?_
    refine Ops.gu rfl rfl rfl (Dtu.lenS Try.underlying26 (Sl.up h) (lk rfl)) rfl ?_
    refine Ops.gu rfl rfl rfl (Dtu.fld fa30_0 (lk rfl)) rfl ?_
    refine Ops.gu rfl rfl rfl (Dtu.fld fa28_0 (lk rfl)) rfl ?_
    refine Ops.gd rfl rfl rfl (Det.ld Try.isAgg3 (lk rfl) (Rd.ow 0 rfl rfl)) rfl ?_
    refine Ops.gu rfl rfl rfl (Dtu.fld fa30_0 (lk rfl)) rfl ?_
    refine Ops.gu rfl rfl rfl (Dtu.fld fa28_1 (lk rfl)) rfl ?_
    refine Ops.gd rfl rfl rfl (Det.ld Try.isAgg3 (lk rfl) (Rd.ow 0 rfl rfl)) rfl ?_
    refine Ops.gu rfl rfl rfl (Dtu.mul (lk rfl) (lk rfl) rfl) rfl ?_
    refine Ops.gu rfl rfl rfl (Dtu.neq (lk rfl) (lk rfl)) rfl ?_
    refine Ops.u (Dtu.pickF (lk rfl) (lk rfl)) rfl ?_
    refine Ops.u (Dtu.mv (lk rfl)) rfl ?_
    refine Ops.decP 40 rfl (fun hy => absurd hy (by first | omega | assumption | decide)) (fun _ => ?_)
    refine Ops.gu rfl rfl rfl (Dtu.fld fa30_0 (lk rfl)) rfl ?_
    refine Ops.gd rfl rfl rfl (Det.lda Try.isAgg28 Try.sizeOf28 (lk rfl) (Rds.ow (m := 3) 0 rfl rfl) rfl) rfl ?_
    refine Ops.gu rfl rfl rfl (Dtu.fld fa30_1 (lk rfl)) rfl ?_
    refine Ops.gd rfl rfl rfl (Det.ld Try.isAgg3 (lk rfl) (Rd.ow 0 rfl rfl)) rfl ?_
    refine Ops.gu rfl rfl rfl (Dtu.fld fa30_2 (lk rfl)) rfl ?_
    refine Ops.gd rfl rfl rfl (Det.ld Try.isAgg3 (lk rfl) (Rd.ow 0 rfl rfl)) rfl ?_
    refine Ops.gs rfl rfl rfl (Stp.call rfl Try.call60 (lks rfl) (fun E' le hat => rhas_ok E' _ _ _ _ _ _ _) ?_) rfl
    rintro _ _ ⟨rfl, rfl⟩
    refine Ops.gu rfl rfl rfl (Dtu.notP (lk rfl)) rfl ?_
    refine Ops.u (Dtu.pickF (lk rfl) (lk rfl)) rfl ?_
    refine Ops.nil ?_
    refine Then.next ?_
    refine Body.condP (lk rfl) (fun hy => absurd hy (by first | omega | assumption | decide)) (fun _ => ?_)
    refine Body.skip ?_
    refine Then.next ?_
    refine Body.seq ?_
    refine Body.seq ?_
    refine Body.region ?_
    refine Ops.u (Dtu.asg (lk rfl)) rfl ?_
    refine Ops.nil ?_
    refine Then.next ?_
    refine Body.block ?_
    refine Body.loopF (γ := Nat) rfl (fun k => [(3, .int .i64 k)]) (fun _ => [own b1 [.int .i64 v.rows, .int .i64 v.cols, .slice a m k, .int .i64 v.row, .int .i64 v.col, .bool v.vis] 30]) (fun k => k ≤ v.cells.length ∧ ∀ j, j < k → v.cells[j]!.ok = true) (fun k => v.cells.length - k) 0 ⟨by omega, fun j hj => by omega⟩ ⟨rfl, trivial⟩ rfl ?_
    rintro i u ⟨hi, hb⟩
    refine Body.seq ?_
    refine Body.seq ?_
    refine Body.region ?_
    refine Ops.u (Dtu.mv (lk rfl)) rfl ?_
    refine Ops.u (Dtu.fld fa30_0 (lk rfl)) rfl ?_
    refine Ops.u (Dtu.fld fa28_2 (lk rfl)) rfl ?_
    refine Ops.d (Det.ld Try.isAgg26 (lk rfl) (Rd.ow 0 rfl rfl)) rfl ?_
    refine Ops.u (Dtu.lenS Try.underlying26 (Sl.up h) (lk rfl)) rfl ?_
    refine Ops.u (Dtu.lss (lk rfl) (lk rfl)) rfl ?_
    refine Ops.nil ?_
    refine Then.next ?_
    refine Body.condP (lk rfl) (fun c55 => ?_) (fun c55 => ?_)
    · have hci : v.cells[i]!.Cols := by rw [getElem!_pos v.cells i (by omega)]; exact hc _ (List.getElem_mem _)
      refine Body.skip ?_
      refine Then.next ?_
      refine Body.seq ?_
      refine Body.block ?_
      refine Body.seq ?_
      refine Body.region ?_
      refine Ops.u (Dtu.fld fa30_0 (lk rfl)) rfl ?_
      refine Ops.u (Dtu.fld fa28_2 (lk rfl)) rfl ?_
      refine Ops.d (Det.ld Try.isAgg26 (lk rfl) (Rd.ow 0 rfl rfl)) rfl ?_
      refine Ops.u (Dtu.mv (lk rfl)) rfl ?_
      refine Ops.u (Dtu.ix (i := (i)) Try.underlying26 Try.sizeOf65 (Sl.up h) (lk rfl) (lk rfl) (by omega) (by omega)) rfl ?_
      refine Ops.d (Det.lda Try.isAgg65 Try.sizeOf65 (lk rfl) (Rds.sl (Sl.up h) (gf (sz := 11) (fun _ => rfl) (by omega))) rfl) rfl ?_
      refine Ops.s (Stp.call rfl Try.call36 (lks rfl) (fun E' le hat => risCell_ok E' ⟨_, _, _, _⟩ (by assumption)) ?_) rfl
      rintro _ _ ⟨rfl, rfl⟩
      refine Ops.u (Dtu.not (lk rfl)) rfl ?_
      refine Ops.nil ?_
      refine Then.next ?_
      refine Body.cond (lk rfl) (fun c65 => ?_) (fun c65 => ?_)
      · refine Body.seq ?_
        refine Body.region ?_
        refine Ops.u (Dtu.asg (lk rfl)) rfl ?_
        refine Ops.nil ?_
        refine Then.next ?_
        refine Body.ret ?_
        refine Blk.ret ?_
        refine Then.ret ?_
        refine Round.ret ?_
        refine Blk.ret ?_
        refine Then.ret ?_
        have c65' : (!v.cells[i]!.ok) = true := c65
        have hx : v.ok = false := by
          rw [hok, Bool.not_eq_false', List.any_eq_true]
          exact ⟨v.cells[i]!, by rw [getElem!_pos v.cells i (by omega)]; exact List.getElem_mem _, c65'⟩
        exact ⟨.inr rfl, _, pk [] rfl, by rw [hx]; rfl, rfl⟩
      · refine Body.skip ?_
        refine Blk.norm ?_
        refine Then.next ?_
        refine Body.region ?_
        refine Ops.u (Dtu.mv (lk rfl)) rfl ?_
        refine Ops.u (Dtu.add (lk rfl) (lk rfl) (w64 (by omega) (by omega))) rfl ?_
        refine Ops.u (Dtu.asg (lk rfl)) rfl ?_
        refine Ops.nil ?_
        have c65' : (!v.cells[i]!.ok) = false := c65
        refine Round.goF (i + 1) rfl rfl rfl ⟨int_eq (by omega), trivial⟩ rfl ⟨by omega, fun j hj => ?_⟩ (by omega)
        by_cases e : j = i
        · subst e; simpa using c65'
        · exact hb j (by omega)
    · refine Body.exit ?_
      refine Then.exit ?_
      refine Round.exit ?_
      refine Blk.here ?_
      refine Then.next ?_
      refine Body.seq ?_
      refine Body.region ?_
      refine Ops.u (Dtu.asg (lk rfl)) rfl ?_
      refine Ops.nil ?_
      refine Then.next ?_
      refine Body.ret ?_
      have hx : v.ok = true := by
        rw [hok, Bool.not_eq_true', List.any_eq_false]
        intro c hcm
        obtain ⟨j, hj, rfl⟩ := List.getElem_of_mem hcm
        have := hb j (by omega)
        rw [getElem!_pos v.cells j hj] at this
        simp [this]
      exact ⟨.inr rfl, _, pk [] rfl, by rw [hx]; rfl, rfl⟩
  · have hno : v.ok = false := View.ok_no (by rw [View.fits_w]; exact hf)
    refine Body.seq ?_
    refine Body.region ?_
    refine Ops.s (Stp.box (lk rfl) rfl (fun b1 => ?_)) rfl
    refine Ops.u (Dtu.asg (lk rfl)) rfl ?_
    refine Ops.nil ?_
    refine Then.next ?_
    refine Body.seq ?_
    refine Body.seq ?_
    refine Body.region ?_
    refine Ops.u (Dtu.fld fa30_0 (lk rfl)) rfl ?_
    refine Ops.u (Dtu.fld fa28_0 (lk rfl)) rfl ?_
    refine Ops.d (Det.ld Try.isAgg3 (lk rfl) (Rd.ow 0 rfl rfl)) rfl ?_
    refine Ops.u (Dtu.lss (lk rfl) (lk rfl)) rfl ?_
    refine Ops.u (Dtu.mv (lk rfl)) rfl ?_
    refine Ops.decP 8 rfl (fun c8 => ?_) (fun c8 => ?_)
    · refine Ops.gn rfl rfl rfl rfl rfl ?_
      refine Ops.gn rfl rfl rfl rfl rfl ?_
      refine Ops.gn rfl rfl rfl rfl rfl ?_
      refine Ops.gn rfl rfl rfl rfl rfl ?_
      refine Ops.u (Dtu.pickT (lk rfl) (lk rfl)) rfl ?_
      refine Ops.u (Dtu.mv (lk rfl)) rfl ?_
      refine Ops.gn rfl rfl rfl rfl rfl ?_
      refine Ops.gn rfl rfl rfl rfl rfl ?_
      refine Ops.gn rfl rfl rfl rfl rfl ?_
      refine Ops.gn rfl rfl rfl rfl rfl ?_
      refine Ops.u (Dtu.pickT (lk rfl) (lk rfl)) rfl ?_
      refine Ops.u (Dtu.mv (lk rfl)) rfl ?_
      refine Ops.gn rfl rfl rfl rfl rfl ?_
      refine Ops.gn rfl rfl rfl rfl rfl ?_
      refine Ops.gn rfl rfl rfl rfl rfl ?_
      refine Ops.gn rfl rfl rfl rfl rfl ?_
      refine Ops.u (Dtu.pickT (lk rfl) (lk rfl)) rfl ?_
      refine Ops.u (Dtu.mv (lk rfl)) rfl ?_
      refine Ops.gn rfl rfl rfl rfl rfl ?_
      refine Ops.gn rfl rfl rfl rfl rfl ?_
      refine Ops.gn rfl rfl rfl rfl rfl ?_
      refine Ops.gn rfl rfl rfl rfl rfl ?_
      refine Ops.gn rfl rfl rfl rfl rfl ?_
      refine Ops.gn rfl rfl rfl rfl rfl ?_
      refine Ops.gn rfl rfl rfl rfl rfl ?_
      refine Ops.gn rfl rfl rfl rfl rfl ?_
      refine Ops.gn rfl rfl rfl rfl rfl ?_
      refine Ops.gn rfl rfl rfl rfl rfl ?_
      refine Ops.gn rfl rfl rfl rfl rfl ?_
      refine Ops.gn rfl rfl rfl rfl rfl ?_
      refine Ops.u (Dtu.pickT (lk rfl) (lk rfl)) rfl ?_
      refine Ops.u (Dtu.mv (lk rfl)) rfl ?_
      refine Ops.gn rfl rfl rfl rfl rfl ?_
      refine Ops.gn rfl rfl rfl rfl rfl ?_
      refine Ops.gn rfl rfl rfl rfl rfl ?_
      refine Ops.gn rfl rfl rfl rfl rfl ?_
      refine Ops.gn rfl rfl rfl rfl rfl ?_
      refine Ops.gn rfl rfl rfl rfl rfl ?_
      refine Ops.gn rfl rfl rfl rfl rfl ?_
      refine Ops.gn rfl rfl rfl rfl rfl ?_
      refine Ops.u (Dtu.pickT (lk rfl) (lk rfl)) rfl ?_
      refine Ops.nil ?_
      refine Then.next ?_
      refine Body.condT (lk rfl) ?_
      refine Body.seq ?_
      refine Body.region ?_
      refine Ops.u (Dtu.asg (lk rfl)) rfl ?_
      refine Ops.nil ?_
      refine Then.next ?_
      refine Body.ret ?_
      refine Then.ret ?_
      (exact ⟨.inr rfl, _, pk [] rfl, by rw [hno]; rfl, rfl⟩)
    · refine Ops.gu rfl rfl rfl (Dtu.fld fa30_0 (lk rfl)) rfl ?_
      refine Ops.gu rfl rfl rfl (Dtu.fld fa28_0 (lk rfl)) rfl ?_
      refine Ops.gd rfl rfl rfl (Det.ld Try.isAgg3 (lk rfl) (Rd.ow 0 rfl rfl)) rfl ?_
      refine Ops.gu rfl rfl rfl (Dtu.gtr (lk rfl) (lk rfl)) rfl ?_
      refine Ops.u (Dtu.pickF (lk rfl) (lk rfl)) rfl ?_
      refine Ops.u (Dtu.mv (lk rfl)) rfl ?_
      refine Ops.decP 14 rfl (fun c14 => ?_) (fun c14 => ?_)
      · refine Ops.gn rfl rfl rfl rfl rfl ?_
        refine Ops.gn rfl rfl rfl rfl rfl ?_
        refine Ops.gn rfl rfl rfl rfl rfl ?_
        refine Ops.gn rfl rfl rfl rfl rfl ?_
        refine Ops.u (Dtu.pickT (lk rfl) (lk rfl)) rfl ?_
        refine Ops.u (Dtu.mv (lk rfl)) rfl ?_
        refine Ops.gn rfl rfl rfl rfl rfl ?_
        refine Ops.gn rfl rfl rfl rfl rfl ?_
        refine Ops.gn rfl rfl rfl rfl rfl ?_
        refine Ops.gn rfl rfl rfl rfl rfl ?_
        refine Ops.u (Dtu.pickT (lk rfl) (lk rfl)) rfl ?_
        refine Ops.u (Dtu.mv (lk rfl)) rfl ?_
        refine Ops.gn rfl rfl rfl rfl rfl ?_
        refine Ops.gn rfl rfl rfl rfl rfl ?_
        refine Ops.gn rfl rfl rfl rfl rfl ?_
        refine Ops.gn rfl rfl rfl rfl rfl ?_
        refine Ops.gn rfl rfl rfl rfl rfl ?_
        refine Ops.gn rfl rfl rfl rfl rfl ?_
        refine Ops.gn rfl rfl rfl rfl rfl ?_
        refine Ops.gn rfl rfl rfl rfl rfl ?_
        refine Ops.gn rfl rfl rfl rfl rfl ?_
        refine Ops.gn rfl rfl rfl rfl rfl ?_
        refine Ops.gn rfl rfl rfl rfl rfl ?_
        refine Ops.gn rfl rfl rfl rfl rfl ?_
        refine Ops.u (Dtu.pickT (lk rfl) (lk rfl)) rfl ?_
        refine Ops.u (Dtu.mv (lk rfl)) rfl ?_
        refine Ops.gn rfl rfl rfl rfl rfl ?_
        refine Ops.gn rfl rfl rfl rfl rfl ?_
        refine Ops.gn rfl rfl rfl rfl rfl ?_
        refine Ops.gn rfl rfl rfl rfl rfl ?_
        refine Ops.gn rfl rfl rfl rfl rfl ?_
        refine Ops.gn rfl rfl rfl rfl rfl ?_
        refine Ops.gn rfl rfl rfl rfl rfl ?_
        refine Ops.gn rfl rfl rfl rfl rfl ?_
        refine Ops.u (Dtu.pickT (lk rfl) (lk rfl)) rfl ?_
        refine Ops.nil ?_
        refine Then.next ?_
        refine Body.condT (lk rfl) ?_
        refine Body.seq ?_
        refine Body.region ?_
        refine Ops.u (Dtu.asg (lk rfl)) rfl ?_
        refine Ops.nil ?_
        refine Then.next ?_
        refine Body.ret ?_
        refine Then.ret ?_
        (exact ⟨.inr rfl, _, pk [] rfl, by rw [hno]; rfl, rfl⟩)
      · refine Ops.gu rfl rfl rfl (Dtu.fld fa30_0 (lk rfl)) rfl ?_
        refine Ops.gu rfl rfl rfl (Dtu.fld fa28_1 (lk rfl)) rfl ?_
        refine Ops.gd rfl rfl rfl (Det.ld Try.isAgg3 (lk rfl) (Rd.ow 0 rfl rfl)) rfl ?_
        refine Ops.gu rfl rfl rfl (Dtu.lss (lk rfl) (lk rfl)) rfl ?_
        refine Ops.u (Dtu.pickF (lk rfl) (lk rfl)) rfl ?_
        refine Ops.u (Dtu.mv (lk rfl)) rfl ?_
        refine Ops.decP 20 rfl (fun c20 => ?_) (fun c20 => ?_)
        · refine Ops.gn rfl rfl rfl rfl rfl ?_
          refine Ops.gn rfl rfl rfl rfl rfl ?_
          refine Ops.gn rfl rfl rfl rfl rfl ?_
          refine Ops.gn rfl rfl rfl rfl rfl ?_
          refine Ops.u (Dtu.pickT (lk rfl) (lk rfl)) rfl ?_
          refine Ops.u (Dtu.mv (lk rfl)) rfl ?_
          refine Ops.gn rfl rfl rfl rfl rfl ?_
          refine Ops.gn rfl rfl rfl rfl rfl ?_
          refine Ops.gn rfl rfl rfl rfl rfl ?_
          refine Ops.gn rfl rfl rfl rfl rfl ?_
          refine Ops.gn rfl rfl rfl rfl rfl ?_
          refine Ops.gn rfl rfl rfl rfl rfl ?_
          refine Ops.gn rfl rfl rfl rfl rfl ?_
          refine Ops.gn rfl rfl rfl rfl rfl ?_
          refine Ops.gn rfl rfl rfl rfl rfl ?_
          refine Ops.gn rfl rfl rfl rfl rfl ?_
          refine Ops.gn rfl rfl rfl rfl rfl ?_
          refine Ops.gn rfl rfl rfl rfl rfl ?_
          refine Ops.u (Dtu.pickT (lk rfl) (lk rfl)) rfl ?_
          refine Ops.u (Dtu.mv (lk rfl)) rfl ?_
          refine Ops.gn rfl rfl rfl rfl rfl ?_
          refine Ops.gn rfl rfl rfl rfl rfl ?_
          refine Ops.gn rfl rfl rfl rfl rfl ?_
          refine Ops.gn rfl rfl rfl rfl rfl ?_
          refine Ops.gn rfl rfl rfl rfl rfl ?_
          refine Ops.gn rfl rfl rfl rfl rfl ?_
          refine Ops.gn rfl rfl rfl rfl rfl ?_
          refine Ops.gn rfl rfl rfl rfl rfl ?_
          refine Ops.u (Dtu.pickT (lk rfl) (lk rfl)) rfl ?_
          refine Ops.nil ?_
          refine Then.next ?_
          refine Body.condT (lk rfl) ?_
          refine Body.seq ?_
          refine Body.region ?_
          refine Ops.u (Dtu.asg (lk rfl)) rfl ?_
          refine Ops.nil ?_
          refine Then.next ?_
          refine Body.ret ?_
          refine Then.ret ?_
          (exact ⟨.inr rfl, _, pk [] rfl, by rw [hno]; rfl, rfl⟩)
        · refine Ops.gu rfl rfl rfl (Dtu.fld fa30_0 (lk rfl)) rfl ?_
          refine Ops.gu rfl rfl rfl (Dtu.fld fa28_1 (lk rfl)) rfl ?_
          refine Ops.gd rfl rfl rfl (Det.ld Try.isAgg3 (lk rfl) (Rd.ow 0 rfl rfl)) rfl ?_
          refine Ops.gu rfl rfl rfl (Dtu.gtr (lk rfl) (lk rfl)) rfl ?_
          refine Ops.u (Dtu.pickF (lk rfl) (lk rfl)) rfl ?_
          refine Ops.u (Dtu.mv (lk rfl)) rfl ?_
          refine Ops.decP 26 rfl (fun c26 => ?_) (fun c26 => ?_)
          · refine Ops.gn rfl rfl rfl rfl rfl ?_
            refine Ops.gn rfl rfl rfl rfl rfl ?_
            refine Ops.gn rfl rfl rfl rfl rfl ?_
            refine Ops.gn rfl rfl rfl rfl rfl ?_
            refine Ops.gn rfl rfl rfl rfl rfl ?_
            refine Ops.gn rfl rfl rfl rfl rfl ?_
            refine Ops.gn rfl rfl rfl rfl rfl ?_
            refine Ops.gn rfl rfl rfl rfl rfl ?_
            refine Ops.gn rfl rfl rfl rfl rfl ?_
            refine Ops.gn rfl rfl rfl rfl rfl ?_
            refine Ops.gn rfl rfl rfl rfl rfl ?_
            refine Ops.gn rfl rfl rfl rfl rfl ?_
            refine Ops.u (Dtu.pickT (lk rfl) (lk rfl)) rfl ?_
            refine Ops.u (Dtu.mv (lk rfl)) rfl ?_
            refine Ops.gn rfl rfl rfl rfl rfl ?_
            refine Ops.gn rfl rfl rfl rfl rfl ?_
            refine Ops.gn rfl rfl rfl rfl rfl ?_
            refine Ops.gn rfl rfl rfl rfl rfl ?_
            refine Ops.gn rfl rfl rfl rfl rfl ?_
            refine Ops.gn rfl rfl rfl rfl rfl ?_
            refine Ops.gn rfl rfl rfl rfl rfl ?_
            refine Ops.gn rfl rfl rfl rfl rfl ?_
            refine Ops.u (Dtu.pickT (lk rfl) (lk rfl)) rfl ?_
            refine Ops.nil ?_
            refine Then.next ?_
            refine Body.condT (lk rfl) ?_
            refine Body.seq ?_
            refine Body.region ?_
            refine Ops.u (Dtu.asg (lk rfl)) rfl ?_
            refine Ops.nil ?_
            refine Then.next ?_
            refine Body.ret ?_
            refine Then.ret ?_
            (exact ⟨.inr rfl, _, pk [] rfl, by rw [hno]; rfl, rfl⟩)
          · refine Ops.gu rfl rfl rfl (Dtu.fld fa30_0 (lk rfl)) rfl ?_
            refine Ops.gu rfl rfl rfl (Dtu.fld fa28_2 (lk rfl)) rfl ?_
            refine Ops.gd rfl rfl rfl (Det.ld Try.isAgg26 (lk rfl) (Rd.ow 0 rfl rfl)) rfl ?_
            refine Ops.gu rfl rfl rfl (Dtu.lenS Try.underlying26 (Sl.up h) (lk rfl)) rfl ?_
            refine Ops.gu rfl rfl rfl (Dtu.fld fa30_0 (lk rfl)) rfl ?_
            refine Ops.gu rfl rfl rfl (Dtu.fld fa28_0 (lk rfl)) rfl ?_
            refine Ops.gd rfl rfl rfl (Det.ld Try.isAgg3 (lk rfl) (Rd.ow 0 rfl rfl)) rfl ?_
            refine Ops.gu rfl rfl rfl (Dtu.fld fa30_0 (lk rfl)) rfl ?_
            refine Ops.gu rfl rfl rfl (Dtu.fld fa28_1 (lk rfl)) rfl ?_
            refine Ops.gd rfl rfl rfl (Det.ld Try.isAgg3 (lk rfl) (Rd.ow 0 rfl rfl)) rfl ?_
            refine Ops.gu rfl rfl rfl (Dtu.mul (lk rfl) (lk rfl) rfl) rfl ?_
            refine Ops.gu rfl rfl rfl (Dtu.neq (lk rfl) (lk rfl)) rfl ?_
            refine Ops.u (Dtu.pickF (lk rfl) (lk rfl)) rfl ?_
            refine Ops.u (Dtu.mv (lk rfl)) rfl ?_
            refine Ops.decP 40 rfl (fun c40 => ?_) (fun c40 => ?_)
            · refine Ops.gn rfl rfl rfl rfl rfl ?_
              refine Ops.gn rfl rfl rfl rfl rfl ?_
              refine Ops.gn rfl rfl rfl rfl rfl ?_
              refine Ops.gn rfl rfl rfl rfl rfl ?_
              refine Ops.gn rfl rfl rfl rfl rfl ?_
              refine Ops.gn rfl rfl rfl rfl rfl ?_
              refine Ops.gn rfl rfl rfl rfl rfl ?_
              refine Ops.gn rfl rfl rfl rfl rfl ?_
              refine Ops.u (Dtu.pickT (lk rfl) (lk rfl)) rfl ?_
              refine Ops.nil ?_
              refine Then.next ?_
              refine Body.condT (lk rfl) ?_
              refine Body.seq ?_
              refine Body.region ?_
              refine Ops.u (Dtu.asg (lk rfl)) rfl ?_
              refine Ops.nil ?_
              refine Then.next ?_
              refine Body.ret ?_
              refine Then.ret ?_
              (exact ⟨.inr rfl, _, pk [] rfl, by rw [hno]; rfl, rfl⟩)
            · refine Ops.gu rfl rfl rfl (Dtu.fld fa30_0 (lk rfl)) rfl ?_
              refine Ops.gd rfl rfl rfl (Det.lda Try.isAgg28 Try.sizeOf28 (lk rfl) (Rds.ow (m := 3) 0 rfl rfl) rfl) rfl ?_
              refine Ops.gu rfl rfl rfl (Dtu.fld fa30_1 (lk rfl)) rfl ?_
              refine Ops.gd rfl rfl rfl (Det.ld Try.isAgg3 (lk rfl) (Rd.ow 0 rfl rfl)) rfl ?_
              refine Ops.gu rfl rfl rfl (Dtu.fld fa30_2 (lk rfl)) rfl ?_
              refine Ops.gd rfl rfl rfl (Det.ld Try.isAgg3 (lk rfl) (Rd.ow 0 rfl rfl)) rfl ?_
              refine Ops.gs rfl rfl rfl (Stp.call rfl Try.call60 (lks rfl) (fun E' le hat => rhas_ok E' _ _ _ _ _ _ _) ?_) rfl
              rintro _ _ ⟨rfl, rfl⟩
              refine Ops.gu rfl rfl rfl (Dtu.notP (lk rfl)) rfl ?_
              refine Ops.u (Dtu.pickF (lk rfl) (lk rfl)) rfl ?_
              refine Ops.nil ?_
              refine Then.next ?_
              refine Body.condP (lk rfl) (fun _ => ?_) (fun hn => absurd (by first | omega | assumption | decide) hn)
              refine Body.seq ?_
              refine Body.region ?_
              refine Ops.u (Dtu.asg (lk rfl)) rfl ?_
              refine Ops.nil ?_
              refine Then.next ?_
              refine Body.ret ?_
              refine Then.ret ?_
              (exact ⟨.inr rfl, _, pk [] rfl, by rw [hno]; rfl, rfl⟩)
theorem rsame17_ok (E : Env) (a b : View) (s t : Value) (ha : a.rhas E [] s) (hb : b.rhas E [] t) (fa : ∀ c ∈ a.cells, c.Fl) (fb : ∀ c ∈ b.cells, c.Fl) : Does Try.prog 67 #[.agg #[.int .i64 a.rows, .int .i64 a.cols, s], .agg #[.int .i64 b.rows, .int .i64 b.cols, t]] E [] fun r H' => r = .bool (decide (a.rows = b.rows ∧ a.cols = b.cols ∧ a.cells = b.cells)) ∧ H' = [] := by
  unfold View.rhas at ha hb
  refine Does.pure ha.len fun hlen => ?_
  refine Does.pure hb.len fun hlen2 => ?_
  refine Does.pure ha.isSl fun hs => ?_
  refine Does.pure hb.isSl fun ht => ?_
  obtain ⟨sa, sm, sc, rfl⟩ := hs
  obtain ⟨ta, tm, tc, rfl⟩ := ht
  obtain ⟨r1, c1, l1, o1, q1, v1⟩ := a
  obtain ⟨r2, c2, l2, o2, q2, v2⟩ := b
  dsimp only at ha hb fa fb hlen hlen2 ⊢
  refine Does.go (args := [.agg #[.int .i64 r1, .int .i64 c1, .slice sa sm sc], .agg #[.int .i64 r2, .int .i64 c2, .slice ta tm tc]]) _ _ Try.func67 rfl Try.ntmps67 rfl rfl ?_
  by_cases hf : r1 = r2 ∧ c1 = c2 ∧ (l1.length : Int) = l2.length
  · obtain ⟨e1, e2, e3⟩ := hf
    refine Body.seq ?_
    refine Body.region ?_
    refine Ops.s (Stp.box (lk rfl) rfl (fun b2 => ?_)) rfl
    refine Ops.s (Stp.box (lk rfl) rfl (fun b3 => ?_)) rfl
    refine Ops.u (Dtu.asg (lk rfl)) rfl ?_
    refine Ops.nil ?_
    refine Then.next ?_
    refine Body.seq ?_
    refine Body.seq ?_
    refine Body.region ?_
    refine Ops.u (Dtu.fld fa28_0 (lk rfl)) rfl ?_
    refine Ops.d (Det.ld Try.isAgg3 (lk rfl) (Rd.ow 1 rfl rfl)) rfl ?_
    refine Ops.u (Dtu.fld fa28_0 (lk rfl)) rfl ?_
    refine Ops.d (Det.ld Try.isAgg3 (lk rfl) (Rd.ow 0 rfl rfl)) rfl ?_
    refine Ops.u (Dtu.neq (lk rfl) (lk rfl)) rfl ?_
    refine Ops.u (Dtu.mv (lk rfl)) rfl ?_
    refine Ops.decP 11 rfl (fun hy => absurd hy (by first | omega | assumption | decide)) (fun _ => ?_)
    refine Ops.gu rfl rfl rfl (Dtu.fld fa28_1 (lk rfl)) rfl ?_
    refine Ops.gd rfl rfl rfl (Det.ld Try.isAgg3 (lk rfl) (Rd.ow 1 rfl rfl)) rfl ?_
    refine Ops.gu rfl rfl rfl (Dtu.fld fa28_1 (lk rfl)) rfl ?_
    refine Ops.gd rfl rfl rfl (Det.ld Try.isAgg3 (lk rfl) (Rd.ow 0 rfl rfl)) rfl ?_
    refine Ops.gu rfl rfl rfl (Dtu.neq (lk rfl) (lk rfl)) rfl ?_
    refine Ops.u (Dtu.pickF (lk rfl) (lk rfl)) rfl ?_
    refine Ops.u (Dtu.mv (lk rfl)) rfl ?_
    refine Ops.decP 18 rfl (fun hy => absurd hy (by first | omega | assumption | decide)) (fun _ => ?_)
    refine Ops.gu rfl rfl rfl (Dtu.fld fa28_2 (lk rfl)) rfl ?_
    refine Ops.gd rfl rfl rfl (Det.ld Try.isAgg26 (lk rfl) (Rd.ow 1 rfl rfl)) rfl ?_
    refine Ops.gu rfl rfl rfl (Dtu.lenS Try.underlying26 (Sl.up ha) (lk rfl)) rfl ?_
    refine Ops.gu rfl rfl rfl (Dtu.fld fa28_2 (lk rfl)) rfl ?_
    refine Ops.gd rfl rfl rfl (Det.ld Try.isAgg26 (lk rfl) (Rd.ow 0 rfl rfl)) rfl ?_
    refine Ops.gu rfl rfl rfl (Dtu.lenS Try.underlying26 (Sl.up hb) (lk rfl)) rfl ?_
    refine Ops.gu rfl rfl rfl (Dtu.neq (lk rfl) (lk rfl)) rfl ?_
    refine Ops.u (Dtu.pickF (lk rfl) (lk rfl)) rfl ?_
    refine Ops.nil ?_
    refine Then.next ?_
    refine Body.condP (lk rfl) (fun hy => absurd hy (by first | omega | assumption | decide)) (fun _ => ?_)
    refine Body.skip ?_
    refine Then.next ?_
    refine Body.seq ?_
    refine Body.seq ?_
    refine Body.region ?_
    refine Ops.u (Dtu.asg (lk rfl)) rfl ?_
    refine Ops.nil ?_
    refine Then.next ?_
    refine Body.block ?_
    refine Body.loopF (γ := Nat) rfl (fun k => [(5, .int .i64 k)]) (fun _ => [own b3 [.int .i64 r2, .int .i64 c2, .slice ta tm tc] 28, own b2 [.int .i64 r1, .int .i64 c1, .slice sa sm sc] 28]) (fun k => k ≤ l1.length ∧ ∀ j, j < k → l1[j]! = l2[j]!) (fun k => l1.length - k) 0 ⟨by omega, fun j hj => by omega⟩ ⟨rfl, trivial⟩ rfl ?_
    rintro i u ⟨hi, hj⟩
    refine Body.seq ?_
    refine Body.seq ?_
    refine Body.region ?_
    refine Ops.u (Dtu.mv (lk rfl)) rfl ?_
    refine Ops.u (Dtu.fld fa28_2 (lk rfl)) rfl ?_
    refine Ops.d (Det.ld Try.isAgg26 (lk rfl) (Rd.ow 1 rfl rfl)) rfl ?_
    refine Ops.u (Dtu.lenS Try.underlying26 (Sl.up ha) (lk rfl)) rfl ?_
    refine Ops.u (Dtu.lss (lk rfl) (lk rfl)) rfl ?_
    refine Ops.nil ?_
    refine Then.next ?_
    refine Body.condP (lk rfl) (fun c31 => ?_) (fun c31 => ?_)
    · have q1 : l1[i]!.Fl := by rw [getElem!_pos l1 i (by omega)]; exact fa _ (List.getElem_mem _)
      have q2 : l2[i]!.Fl := by rw [getElem!_pos l2 i (by omega)]; exact fb _ (List.getElem_mem _)
      have hq := reqB_iff q1 q2
      refine Body.skip ?_
      refine Then.next ?_
      refine Body.seq ?_
      refine Body.block ?_
      refine Body.seq ?_
      refine Body.draw mixed ?_
      refine AB.u 0 rfl (by decide +kernel) (Dtu.fld fa28_2 (lk rfl)) rfl ?_
      refine AB.d 1 rfl (by decide +kernel) rfl (Det.ld Try.isAgg26 (lk rfl) (Rd.ow 1 rfl rfl)) rfl ?_
      refine AB.u 2 rfl (by decide +kernel) (Dtu.mv (lk rfl)) rfl ?_
      refine AB.u 3 rfl (by decide +kernel) (Dtu.ix (i := (i)) Try.underlying26 Try.sizeOf65 (Sl.up ha) (lk rfl) (lk rfl) (by omega) (by omega)) rfl ?_
      refine AB.d 4 rfl (by decide +kernel) rfl (Det.lda Try.isAgg65 Try.sizeOf65 (lk rfl) (Rds.sl (Sl.up ha) (gf (sz := 11) (fun _ => rfl) (by omega))) rfl) rfl ?_
      refine AB.u 5 rfl (by decide +kernel) (Dtu.fld fa28_2 (lk rfl)) rfl ?_
      refine AB.d 6 rfl (by decide +kernel) rfl (Det.ld Try.isAgg26 (lk rfl) (Rd.ow 0 rfl rfl)) rfl ?_
      refine AB.u 7 rfl (by decide +kernel) (Dtu.mv (lk rfl)) rfl ?_
      refine AB.u 8 rfl (by decide +kernel) (Dtu.ix (i := (i)) Try.underlying26 Try.sizeOf65 (Sl.up hb) (lk rfl) (lk rfl) (by omega) (by omega)) rfl ?_
      refine AB.d 9 rfl (by decide +kernel) rfl (Det.lda Try.isAgg65 Try.sizeOf65 (lk rfl) (Rds.sl (Sl.up hb) (gf (sz := 11) (fun _ => rfl) (by omega))) rfl) rfl ?_
      refine AB.u 10 rfl (by decide +kernel) (Dtu.neS eqGuard65 (eq65 _ _) (lk rfl) (lk rfl)) rfl ?_
      refine AB.done (by decide +kernel) ?_
      refine Then.next ?_
      refine Body.cond (lk rfl) (fun c44 => ?_) (fun c44 => ?_)
      · refine Body.seq ?_
        refine Body.region ?_
        refine Ops.u (Dtu.asg (lk rfl)) rfl ?_
        refine Ops.nil ?_
        refine Then.next ?_
        refine Body.ret ?_
        refine Blk.ret ?_
        refine Then.ret ?_
        refine Round.ret ?_
        refine Blk.ret ?_
        refine Then.ret ?_
        refine ⟨.inr rfl, _, pk [] rfl, bool_eq ?_, rfl⟩
        have c44' : ¬ l1[i]! = l2[i]! := fun e => by rw [hq.2 e] at c44; simp at c44
        have : l1 ≠ l2 := fun e => c44' (by rw [e])
        simp [this]
      · refine Body.skip ?_
        refine Blk.norm ?_
        refine Then.next ?_
        refine Body.region ?_
        refine Ops.u (Dtu.mv (lk rfl)) rfl ?_
        refine Ops.u (Dtu.add (lk rfl) (lk rfl) (w64 (by omega) (by omega))) rfl ?_
        refine Ops.u (Dtu.asg (lk rfl)) rfl ?_
        refine Ops.nil ?_
        refine Round.goF (i + 1) rfl rfl rfl ⟨int_eq (by omega), trivial⟩ rfl ⟨by omega, fun j hj2 => ?_⟩ (by omega)
        have c44' : l1[i]! = l2[i]! := hq.1 (by simpa using c44)
        by_cases e : j = i
        · subst e; exact c44'
        · exact hj j (by omega)
    · refine Body.exit ?_
      refine Then.exit ?_
      refine Round.exit ?_
      refine Blk.here ?_
      refine Then.next ?_
      refine Body.seq ?_
      refine Body.region ?_
      refine Ops.u (Dtu.asg (lk rfl)) rfl ?_
      refine Ops.nil ?_
      refine Then.next ?_
      refine Body.ret ?_
      refine ⟨.inr rfl, _, pk [] rfl, bool_eq ?_, rfl⟩
      have : l1 = l2 := List.ext_getElem (by omega) fun j h1 h2 => by
        have := hj j (by omega)
        rwa [getElem!_pos l1 j h1, getElem!_pos l2 j h2] at this
      simp [e1, e2, this]
  · refine Body.seq ?_
    refine Body.region ?_
    refine Ops.s (Stp.box (lk rfl) rfl (fun b2 => ?_)) rfl
    refine Ops.s (Stp.box (lk rfl) rfl (fun b3 => ?_)) rfl
    refine Ops.u (Dtu.asg (lk rfl)) rfl ?_
    refine Ops.nil ?_
    refine Then.next ?_
    refine Body.seq ?_
    refine Body.seq ?_
    refine Body.region ?_
    refine Ops.u (Dtu.fld fa28_0 (lk rfl)) rfl ?_
    refine Ops.d (Det.ld Try.isAgg3 (lk rfl) (Rd.ow 1 rfl rfl)) rfl ?_
    refine Ops.u (Dtu.fld fa28_0 (lk rfl)) rfl ?_
    refine Ops.d (Det.ld Try.isAgg3 (lk rfl) (Rd.ow 0 rfl rfl)) rfl ?_
    refine Ops.u (Dtu.neq (lk rfl) (lk rfl)) rfl ?_
    refine Ops.u (Dtu.mv (lk rfl)) rfl ?_
    refine Ops.decP 11 rfl (fun c11 => ?_) (fun c11 => ?_)
    · refine Ops.gn rfl rfl rfl rfl rfl ?_
      refine Ops.gn rfl rfl rfl rfl rfl ?_
      refine Ops.gn rfl rfl rfl rfl rfl ?_
      refine Ops.gn rfl rfl rfl rfl rfl ?_
      refine Ops.gn rfl rfl rfl rfl rfl ?_
      refine Ops.u (Dtu.pickT (lk rfl) (lk rfl)) rfl ?_
      refine Ops.u (Dtu.mv (lk rfl)) rfl ?_
      refine Ops.gn rfl rfl rfl rfl rfl ?_
      refine Ops.gn rfl rfl rfl rfl rfl ?_
      refine Ops.gn rfl rfl rfl rfl rfl ?_
      refine Ops.gn rfl rfl rfl rfl rfl ?_
      refine Ops.gn rfl rfl rfl rfl rfl ?_
      refine Ops.gn rfl rfl rfl rfl rfl ?_
      refine Ops.gn rfl rfl rfl rfl rfl ?_
      refine Ops.u (Dtu.pickT (lk rfl) (lk rfl)) rfl ?_
      refine Ops.nil ?_
      refine Then.next ?_
      refine Body.condT (lk rfl) ?_
      refine Body.seq ?_
      refine Body.region ?_
      refine Ops.u (Dtu.asg (lk rfl)) rfl ?_
      refine Ops.nil ?_
      refine Then.next ?_
      refine Body.ret ?_
      refine Then.ret ?_
      (refine ⟨.inr rfl, _, pk [] rfl, bool_eq ?_, rfl⟩; simp only [Bool.false_eq_true, false_iff, decide_eq_true_eq]; rintro ⟨e1, e2, e3⟩; exact hf ⟨e1, e2, by rw [e3]⟩)
    · refine Ops.gu rfl rfl rfl (Dtu.fld fa28_1 (lk rfl)) rfl ?_
      refine Ops.gd rfl rfl rfl (Det.ld Try.isAgg3 (lk rfl) (Rd.ow 1 rfl rfl)) rfl ?_
      refine Ops.gu rfl rfl rfl (Dtu.fld fa28_1 (lk rfl)) rfl ?_
      refine Ops.gd rfl rfl rfl (Det.ld Try.isAgg3 (lk rfl) (Rd.ow 0 rfl rfl)) rfl ?_
      refine Ops.gu rfl rfl rfl (Dtu.neq (lk rfl) (lk rfl)) rfl ?_
      refine Ops.u (Dtu.pickF (lk rfl) (lk rfl)) rfl ?_
      refine Ops.u (Dtu.mv (lk rfl)) rfl ?_
      refine Ops.decP 18 rfl (fun c18 => ?_) (fun c18 => ?_)
      · refine Ops.gn rfl rfl rfl rfl rfl ?_
        refine Ops.gn rfl rfl rfl rfl rfl ?_
        refine Ops.gn rfl rfl rfl rfl rfl ?_
        refine Ops.gn rfl rfl rfl rfl rfl ?_
        refine Ops.gn rfl rfl rfl rfl rfl ?_
        refine Ops.gn rfl rfl rfl rfl rfl ?_
        refine Ops.gn rfl rfl rfl rfl rfl ?_
        refine Ops.u (Dtu.pickT (lk rfl) (lk rfl)) rfl ?_
        refine Ops.nil ?_
        refine Then.next ?_
        refine Body.condT (lk rfl) ?_
        refine Body.seq ?_
        refine Body.region ?_
        refine Ops.u (Dtu.asg (lk rfl)) rfl ?_
        refine Ops.nil ?_
        refine Then.next ?_
        refine Body.ret ?_
        refine Then.ret ?_
        (refine ⟨.inr rfl, _, pk [] rfl, bool_eq ?_, rfl⟩; simp only [Bool.false_eq_true, false_iff, decide_eq_true_eq]; rintro ⟨e1, e2, e3⟩; exact hf ⟨e1, e2, by rw [e3]⟩)
      · refine Ops.gu rfl rfl rfl (Dtu.fld fa28_2 (lk rfl)) rfl ?_
        refine Ops.gd rfl rfl rfl (Det.ld Try.isAgg26 (lk rfl) (Rd.ow 1 rfl rfl)) rfl ?_
        refine Ops.gu rfl rfl rfl (Dtu.lenS Try.underlying26 (Sl.up ha) (lk rfl)) rfl ?_
        refine Ops.gu rfl rfl rfl (Dtu.fld fa28_2 (lk rfl)) rfl ?_
        refine Ops.gd rfl rfl rfl (Det.ld Try.isAgg26 (lk rfl) (Rd.ow 0 rfl rfl)) rfl ?_
        refine Ops.gu rfl rfl rfl (Dtu.lenS Try.underlying26 (Sl.up hb) (lk rfl)) rfl ?_
        refine Ops.gu rfl rfl rfl (Dtu.neq (lk rfl) (lk rfl)) rfl ?_
        refine Ops.u (Dtu.pickF (lk rfl) (lk rfl)) rfl ?_
        refine Ops.nil ?_
        refine Then.next ?_
        refine Body.condP (lk rfl) (fun _ => ?_) (fun hn => absurd (by first | omega | assumption | decide) hn)
        refine Body.seq ?_
        refine Body.region ?_
        refine Ops.u (Dtu.asg (lk rfl)) rfl ?_
        refine Ops.nil ?_
        refine Then.next ?_
        refine Body.ret ?_
        refine Then.ret ?_
        (refine ⟨.inr rfl, _, pk [] rfl, bool_eq ?_, rfl⟩; simp only [Bool.false_eq_true, false_iff, decide_eq_true_eq]; rintro ⟨e1, e2, e3⟩; exact hf ⟨e1, e2, by rw [e3]⟩)
theorem rsame_ok (E : Env) (a b : View) (s t : Value) (ha : a.rhas E [] s) (hb : b.rhas E [] t) (fa : ∀ c ∈ a.cells, c.Fl) (fb : ∀ c ∈ b.cells, c.Fl) : Does Try.prog 24 #[a.val s, b.val t] E [] fun r H' => r = .bool (decide (a = b)) ∧ H' = [] := by
  unfold View.rhas at ha hb
  refine Does.pure ha.isSl fun hs => ?_
  refine Does.pure hb.isSl fun ht => ?_
  obtain ⟨sa, sm, sc, rfl⟩ := hs
  obtain ⟨ta, tm, tc, rfl⟩ := ht
  refine Does.go (args := [a.val (.slice sa sm sc), b.val (.slice ta tm tc)]) _ _ Try.func24 rfl Try.ntmps24 rfl rfl ?_
  obtain ⟨r1, c1, l1, o1, q1, v1⟩ := a
  obtain ⟨r2, c2, l2, o2, q2, v2⟩ := b
  dsimp only at ha hb fa fb ⊢
  refine Body.seq ?_
  refine Body.region ?_
  refine Ops.s (Stp.box (lk rfl) rfl (fun b2 => ?_)) rfl
  refine Ops.s (Stp.box (lk rfl) rfl (fun b3 => ?_)) rfl
  refine Ops.u (Dtu.asg (lk rfl)) rfl ?_
  refine Ops.nil ?_
  refine Then.next ?_
  refine Body.seq ?_
  refine Body.region ?_
  refine Ops.u (Dtu.fld fa30_0 (lk rfl)) rfl ?_
  refine Ops.d (Det.lda Try.isAgg28 Try.sizeOf28 (lk rfl) (Rds.ow (m := 3) 1 rfl rfl) rfl) rfl ?_
  refine Ops.u (Dtu.fld fa30_0 (lk rfl)) rfl ?_
  refine Ops.d (Det.lda Try.isAgg28 Try.sizeOf28 (lk rfl) (Rds.ow (m := 3) 0 rfl rfl) rfl) rfl ?_
  refine Ops.s (Stp.call rfl Try.call67 (lks rfl) (fun E' le hat => rsame17_ok E' ⟨r1, c1, l1, o1, q1, v1⟩ ⟨r2, c2, l2, o2, q2, v2⟩ _ _ (Sl.mono ha le) (Sl.mono hb le) fa fb) ?_) rfl
  rintro _ _ ⟨rfl, rfl⟩
  refine Ops.u (Dtu.mv (lk rfl)) rfl ?_
  refine Ops.decP 10 rfl (fun c10 => ?_) (fun c10 => ?_)
  · refine Ops.gu rfl rfl rfl (Dtu.fld fa30_1 (lk rfl)) rfl ?_
    refine Ops.gd rfl rfl rfl (Det.ld Try.isAgg3 (lk rfl) (Rd.ow 1 rfl rfl)) rfl ?_
    refine Ops.gu rfl rfl rfl (Dtu.fld fa30_1 (lk rfl)) rfl ?_
    refine Ops.gd rfl rfl rfl (Det.ld Try.isAgg3 (lk rfl) (Rd.ow 0 rfl rfl)) rfl ?_
    refine Ops.gu rfl rfl rfl (Dtu.eql (lk rfl) (lk rfl)) rfl ?_
    refine Ops.u (Dtu.pickT (lk rfl) (lk rfl)) rfl ?_
    refine Ops.u (Dtu.mv (lk rfl)) rfl ?_
    refine Ops.decP 17 rfl (fun c17 => ?_) (fun c17 => ?_)
    · refine Ops.gu rfl rfl rfl (Dtu.fld fa30_2 (lk rfl)) rfl ?_
      refine Ops.gd rfl rfl rfl (Det.ld Try.isAgg3 (lk rfl) (Rd.ow 1 rfl rfl)) rfl ?_
      refine Ops.gu rfl rfl rfl (Dtu.fld fa30_2 (lk rfl)) rfl ?_
      refine Ops.gd rfl rfl rfl (Det.ld Try.isAgg3 (lk rfl) (Rd.ow 0 rfl rfl)) rfl ?_
      refine Ops.gu rfl rfl rfl (Dtu.eql (lk rfl) (lk rfl)) rfl ?_
      refine Ops.u (Dtu.pickT (lk rfl) (lk rfl)) rfl ?_
      refine Ops.u (Dtu.mv (lk rfl)) rfl ?_
      refine Ops.decP 24 rfl (fun c24 => ?_) (fun c24 => ?_)
      · refine Ops.gu rfl rfl rfl (Dtu.fld fa30_3 (lk rfl)) rfl ?_
        refine Ops.gd rfl rfl rfl (Det.ld Try.isAgg4 (lk rfl) (Rd.ow 1 rfl rfl)) rfl ?_
        refine Ops.gu rfl rfl rfl (Dtu.fld fa30_3 (lk rfl)) rfl ?_
        refine Ops.gd rfl rfl rfl (Det.ld Try.isAgg4 (lk rfl) (Rd.ow 0 rfl rfl)) rfl ?_
        refine Ops.gu rfl rfl rfl (Dtu.eqB Try.underlying4 (lk rfl) (lk rfl)) rfl ?_
        refine Ops.u (Dtu.pickT (lk rfl) (lk rfl)) rfl ?_
        refine Ops.u (Dtu.asg (lk rfl)) rfl ?_
        refine Ops.nil ?_
        refine Then.next ?_
        refine Body.ret ?_
        (refine ⟨.inr rfl, _, pk [] rfl, bool_eq ?_, rfl⟩; simp_all)
      · refine Ops.gn rfl rfl rfl rfl rfl ?_
        refine Ops.gn rfl rfl rfl rfl rfl ?_
        refine Ops.gn rfl rfl rfl rfl rfl ?_
        refine Ops.gn rfl rfl rfl rfl rfl ?_
        refine Ops.gn rfl rfl rfl rfl rfl ?_
        refine Ops.u (Dtu.pickF (lk rfl) (lk rfl)) rfl ?_
        refine Ops.u (Dtu.asg (lk rfl)) rfl ?_
        refine Ops.nil ?_
        refine Then.next ?_
        refine Body.ret ?_
        (refine ⟨.inr rfl, _, pk [] rfl, bool_eq ?_, rfl⟩; simp_all)
    · refine Ops.gn rfl rfl rfl rfl rfl ?_
      refine Ops.gn rfl rfl rfl rfl rfl ?_
      refine Ops.gn rfl rfl rfl rfl rfl ?_
      refine Ops.gn rfl rfl rfl rfl rfl ?_
      refine Ops.gn rfl rfl rfl rfl rfl ?_
      refine Ops.u (Dtu.pickF (lk rfl) (lk rfl)) rfl ?_
      refine Ops.u (Dtu.mv (lk rfl)) rfl ?_
      refine Ops.gn rfl rfl rfl rfl rfl ?_
      refine Ops.gn rfl rfl rfl rfl rfl ?_
      refine Ops.gn rfl rfl rfl rfl rfl ?_
      refine Ops.gn rfl rfl rfl rfl rfl ?_
      refine Ops.gn rfl rfl rfl rfl rfl ?_
      refine Ops.u (Dtu.pickF (lk rfl) (lk rfl)) rfl ?_
      refine Ops.u (Dtu.asg (lk rfl)) rfl ?_
      refine Ops.nil ?_
      refine Then.next ?_
      refine Body.ret ?_
      (refine ⟨.inr rfl, _, pk [] rfl, bool_eq ?_, rfl⟩; simp_all)
  · refine Ops.gn rfl rfl rfl rfl rfl ?_
    refine Ops.gn rfl rfl rfl rfl rfl ?_
    refine Ops.gn rfl rfl rfl rfl rfl ?_
    refine Ops.gn rfl rfl rfl rfl rfl ?_
    refine Ops.gn rfl rfl rfl rfl rfl ?_
    refine Ops.u (Dtu.pickF (lk rfl) (lk rfl)) rfl ?_
    refine Ops.u (Dtu.mv (lk rfl)) rfl ?_
    refine Ops.gn rfl rfl rfl rfl rfl ?_
    refine Ops.gn rfl rfl rfl rfl rfl ?_
    refine Ops.gn rfl rfl rfl rfl rfl ?_
    refine Ops.gn rfl rfl rfl rfl rfl ?_
    refine Ops.gn rfl rfl rfl rfl rfl ?_
    refine Ops.u (Dtu.pickF (lk rfl) (lk rfl)) rfl ?_
    refine Ops.u (Dtu.mv (lk rfl)) rfl ?_
    refine Ops.gn rfl rfl rfl rfl rfl ?_
    refine Ops.gn rfl rfl rfl rfl rfl ?_
    refine Ops.gn rfl rfl rfl rfl rfl ?_
    refine Ops.gn rfl rfl rfl rfl rfl ?_
    refine Ops.gn rfl rfl rfl rfl rfl ?_
    refine Ops.u (Dtu.pickF (lk rfl) (lk rfl)) rfl ?_
    refine Ops.u (Dtu.asg (lk rfl)) rfl ?_
    refine Ops.nil ?_
    refine Then.next ?_
    refine Body.ret ?_
    (refine ⟨.inr rfl, _, pk [] rfl, bool_eq ?_, rfl⟩; simp_all)
end Go.Proofs.Ytijjjdljdjnbaaa
end
section
/- The document's views: of the program's ones; their bytes. -/
namespace Go.Proofs.Ytijjjdljdjnbaaa
set_option maxRecDepth 100000
set_option linter.unusedVariables false
set_option linter.unusedSimpArgs false
open Go.Sx

theorem take_snocC {α : Type} [Inhabited α] {l : List α} {i : Nat} (h : i < l.length) : l.take (i + 1) = l.take i ++ [l[i]!] := by
  rw [List.take_succ_eq_append_getElem h, getElem!_pos l i h]
theorem as20_ok (E : Env) (v : View) (s : Value) (h : v.has E [] s) (hf : ∀ c ∈ v.cells, c.Fl) (hn : v.cells.length ≤ 1000) : Does Try.prog 16 #[v.val s] E [] fun r H' => ∃ (ta : Option Addr) (tm tc : Nat), r = v.val (.slice ta tm tc) ∧ H' = [osl 65 11 (.slice ta tm tc) v.cells.length (v.cells.flatMap Cell.renc)] := by
  unfold View.has at h
  refine Does.pure h.len fun hlen => ?_
  refine Does.pure h.isSl fun hs => ?_
  obtain ⟨a, m, k, rfl⟩ := hs
  obtain ⟨r1, c1, l1, o1, q1, v1⟩ := v
  dsimp only at h hf hlen hn
  refine Does.go (args := [View.val ⟨r1, c1, l1, o1, q1, v1⟩ (.slice a m k)]) _ _ Try.func16 rfl Try.ntmps16 rfl rfl ?_
  refine Body.seq ?_
  refine Body.region ?_
  refine Ops.s (Stp.box (lk rfl) rfl (fun b1 => ?_)) rfl
  refine Ops.s (Stp.alloc ty30 (fun b2 => ?_)) rfl
  refine Ops.nil ?_
  refine Then.next ?_
  refine Body.seq ?_
  refine Body.region ?_
  refine Ops.u (Dtu.fld fa24_0 (lk rfl)) rfl ?_
  refine Ops.d (Det.ld Try.isAgg3 (lk rfl) (Rd.ow 1 rfl rfl)) rfl ?_
  refine Ops.u (Dtu.fld fa24_1 (lk rfl)) rfl ?_
  refine Ops.d (Det.ld Try.isAgg3 (lk rfl) (Rd.ow 1 rfl rfl)) rfl ?_
  refine Ops.u (Dtu.build ty28 pl28 (lkp rfl) rfl rfl) rfl ?_
  refine Ops.u (Dtu.fld fa24_3 (lk rfl)) rfl ?_
  refine Ops.d (Det.ld Try.isAgg3 (lk rfl) (Rd.ow 1 rfl rfl)) rfl ?_
  refine Ops.u (Dtu.fld fa24_4 (lk rfl)) rfl ?_
  refine Ops.d (Det.ld Try.isAgg3 (lk rfl) (Rd.ow 1 rfl rfl)) rfl ?_
  refine Ops.u (Dtu.fld fa24_5 (lk rfl)) rfl ?_
  refine Ops.d (Det.ld Try.isAgg4 (lk rfl) (Rd.ow 1 rfl rfl)) rfl ?_
  refine Ops.u (Dtu.build ty30 pl30 (lkp rfl) rfl rfl) rfl ?_
  refine Ops.s (Stp.alloc ty30 (fun b3 => ?_)) rfl
  refine Ops.e (Stp.store 0 Try.sizeOf30 (lk rfl) (lk rfl) rfl rfl rfl rfl rfl rfl rfl ?_)
  refine Ops.nil ?_
  refine Then.next ?_
  refine Body.seq ?_
  refine Body.seq ?_
  refine Body.region ?_
  refine Ops.u (Dtu.asg (lk rfl)) rfl ?_
  refine Ops.nil ?_
  refine Then.next ?_
  refine Body.block ?_
  refine Body.conseq (H' := [osl 65 11 (.slice none 0 0) 0 [], own b3 [.int .i64 r1, .int .i64 c1, .slice none 0 0, .int .i64 o1, .int .i64 q1, .bool v1] 30,
      own b2 [.int .i64 0, .int .i64 0, .slice none 0 0, .int .i64 0, .int .i64 0, .bool false] 30, own b1 [.int .i64 r1, .int .i64 c1, .slice a m k, .int .i64 o1, .int .i64 q1, .bool v1] 24]) (fun w s => osl_nil s) ?_
  refine Body.loopF (γ := Nat × Value) rfl (fun g => [(4, .int .i64 g.1)]) (fun g => [osl 65 11 g.2 g.1 ((l1.take g.1).flatMap Cell.renc), own b3 [.int .i64 r1, .int .i64 c1, g.2, .int .i64 o1, .int .i64 q1, .bool v1] 30,
      own b2 [.int .i64 0, .int .i64 0, .slice none 0 0, .int .i64 0, .int .i64 0, .bool false] 30, own b1 [.int .i64 r1, .int .i64 c1, .slice a m k, .int .i64 o1, .int .i64 q1, .bool v1] 24]) (fun g => g.1 ≤ l1.length) (fun g => l1.length - g.1) (0, .slice none 0 0) (by simp) ⟨rfl, trivial⟩ rfl ?_
  rintro ⟨i, O⟩ u hi
  dsimp only at hi ⊢
  refine Body.seq ?_
  refine Body.seq ?_
  refine Body.region ?_
  refine Ops.u (Dtu.mv (lk rfl)) rfl ?_
  refine Ops.u (Dtu.fld fa24_2 (lk rfl)) rfl ?_
  refine Ops.d (Det.ld Try.isAgg22 (lk rfl) (Rd.ow 3 rfl rfl)) rfl ?_
  refine Ops.u (Dtu.lenS Try.underlying22 (Sl.up h) (lk rfl)) rfl ?_
  refine Ops.u (Dtu.lss (lk rfl) (lk rfl)) rfl ?_
  refine Ops.nil ?_
  refine Then.next ?_
  refine Body.condP (lk rfl) (fun c21 => ?_) (fun c21 => ?_)
  · have q1 : l1[i]!.Fl := by rw [getElem!_pos l1 i (by omega)]; exact hf _ (List.getElem_mem _)
    obtain ⟨q1, q2⟩ := q1
    refine Body.skip ?_
    refine Then.next ?_
    refine Body.seq ?_
    refine Body.block ?_
    refine Body.draw mixed ?_
    refine AB.u 0 rfl (by decide +kernel) (Dtu.fld fa30_0 (lk rfl)) rfl ?_
    refine AB.u 1 rfl (by decide +kernel) (Dtu.fld fa28_2 (lk rfl)) rfl ?_
    refine AB.d 2 rfl (by decide +kernel) rfl (Det.ld Try.isAgg26 (lk rfl) (Rd.ow 1 rfl rfl)) rfl ?_
    refine AB.u 3 rfl (by decide +kernel) (Dtu.fld fa24_2 (lk rfl)) rfl ?_
    refine AB.d 4 rfl (by decide +kernel) rfl (Det.ld Try.isAgg22 (lk rfl) (Rd.ow 3 rfl rfl)) rfl ?_
    refine AB.u 5 rfl (by decide +kernel) (Dtu.mv (lk rfl)) rfl ?_
    refine AB.u 6 rfl (by decide +kernel) (Dtu.ix (i := (i)) Try.underlying22 Try.sizeOf55 (Sl.up h) (lk rfl) (lk rfl) (by omega) (by omega)) rfl ?_
    refine AB.d 7 rfl (by decide +kernel) rfl (Det.lda Try.isAgg55 Try.sizeOf55 (lk rfl) (Rds.sl (Sl.up h) (gf (sz := 4) (fun _ => rfl) (by omega))) rfl) rfl ?_
    refine AB.s 8 rfl (by decide +kernel) (by decide +kernel) (Stp.call rfl Try.call32 (lks rfl) (fun E' le hat => cell17_ok E' _ _ _ _ (by first | assumption | omega) (by first | assumption | omega)) ?_) rfl
    rintro _ _ ⟨rfl, rfl⟩
    refine AB.s 9 rfl (by decide +kernel) (by decide +kernel) (Stp.buildSliceO Try.underlying26 ty65 (by decide) (by decide) (lkp rfl) rfl rfl rfl (by decide) (fun v33 => ?_)) rfl
    refine AB.s 10 rfl (by decide +kernel) (by decide +kernel) (Stp.append 1 Try.underlying26 ty65 rfl rfl (lk rfl) (lk rfl) (Sl.osl 0 rfl) (by first | rfl | exact all_map (fun _ => rfl) _ | exact all_flat (fun _ => rfl) _) (by omega) (by omega) (fun v34 => ?_)) rfl
    refine AB.u 11 rfl (by decide +kernel) (Dtu.fld fa30_0 (lk rfl)) rfl ?_
    refine AB.u 12 rfl (by decide +kernel) (Dtu.fld fa28_2 (lk rfl)) rfl ?_
    refine AB.pure (Sl.isSl (Sl.osl 1 rfl)) fun h34 => ?_
    obtain ⟨z1, z2, z3, rfl⟩ := h34
    refine AB.e 13 rfl (by decide +kernel) (by decide +kernel) (Stp.store 2 Try.sizeOf26 (lk rfl) (lk rfl) rfl rfl rfl rfl rfl rfl rfl ?_)
    refine AB.done (by decide +kernel) ?_
    refine Blk.norm ?_
    refine Then.next ?_
    refine Body.region ?_
    refine Ops.u (Dtu.mv (lk rfl)) rfl ?_
    refine Ops.u (Dtu.add (lk rfl) (lk rfl) (w64 (by omega) (by omega))) rfl ?_
    refine Ops.u (Dtu.asg (lk rfl)) rfl ?_
    refine Ops.nil ?_
    refine Round.goK [1, 1, 1, 1] (i + 1, .slice z1 z2 z3) rfl rfl rfl ⟨int_eq (by simp), trivial⟩ rfl ?_ (by dsimp only; omega) (by dsimp only; omega)
    rw [take_snocC (by omega), List.flatMap_append]
    simp [Cell.renc, rsty]
  · refine Body.pure (Sl.isSl (Sl.osl 0 rfl)) fun hO => ?_
    obtain ⟨z1, z2, z3, rfl⟩ := hO
    obtain rfl : i = l1.length := by omega
    refine Body.exit ?_
    refine Then.exit ?_
    refine Round.exit ?_
    refine Blk.here ?_
    refine Then.next ?_
    refine Body.seq ?_
    refine Body.region ?_
    refine Ops.d (Det.lda Try.isAgg30 Try.sizeOf30 (lk rfl) (Rds.ow (m := 6) 1 rfl rfl) rfl) rfl ?_
    refine Ops.e (Stp.store 2 Try.sizeOf30 (lk rfl) (lk rfl) rfl rfl rfl rfl rfl rfl rfl ?_)
    refine Ops.nil ?_
    refine Then.next ?_
    refine Body.ret ?_
    exact ⟨.inr rfl, _, Loads.agg Try.isAgg30 Try.sizeOf30 (Rds.ow (m := 6) 2 rfl rfl) rfl, _, pk [0] rfl, z1, z2, z3, rfl, by rw [List.take_length]⟩
end Go.Proofs.Ytijjjdljdjnbaaa
end
section
/- The document's views: their bytes. -/
namespace Go.Proofs.Ytijjjdljdjnbaaa
set_option maxRecDepth 100000
set_option linter.unusedVariables false
set_option linter.unusedSimpArgs false
open Go.Sx

theorem rhead_ok (E : Env) (v : View) (a : Option Addr) (m k : Nat) (hf : v.fits) : Does Try.prog 61 #[v.val (.slice a m k)] E [] fun r H' => ∃ s, s = r ∧ H' = [osl 5 1 s 5 (v.head.map (.int .u8))] := by
  obtain ⟨hrc, f1, f2, f3, f4, f5⟩ := hf
  refine Does.go (args := [v.val (.slice a m k)]) _ _ Try.func61 rfl Try.ntmps61 rfl rfl ?_
  refine Body.seq ?_
  refine Body.region ?_
  refine Ops.s (Stp.box (lk rfl) rfl (fun b1 => ?_)) rfl
  refine Ops.u (Dtu.asg (lk rfl)) rfl ?_
  refine Ops.nil ?_
  refine Then.next ?_
  refine Body.seq ?_
  refine Body.region ?_
  refine Ops.u (Dtu.asg (lk rfl)) rfl ?_
  refine Ops.nil ?_
  refine Then.next ?_
  refine Body.seq ?_
  refine Body.seq ?_
  refine Body.region ?_
  refine Ops.u (Dtu.fld fa30_3 (lk rfl)) rfl ?_
  refine Ops.d (Det.ld Try.isAgg4 (lk rfl) (Rd.ow 0 rfl rfl)) rfl ?_
  refine Ops.nil ?_
  refine Then.next ?_
  refine Body.cond (lk rfl) (fun c5 => ?_) (fun c5 => ?_)
  · refine Body.region ?_
    refine Ops.u (Dtu.asg (lk rfl)) rfl ?_
    refine Ops.nil ?_
    refine Then.next ?_
    refine Body.seq ?_
    refine Body.region ?_
    refine Ops.u (Dtu.fld fa30_0 (lk rfl)) rfl ?_
    refine Ops.u (Dtu.fld fa28_0 (lk rfl)) rfl ?_
    refine Ops.d (Det.ld Try.isAgg3 (lk rfl) (Rd.ow 0 rfl rfl)) rfl ?_
    refine Ops.u (Dtu.cvt Try.underlying3 Try.underlying5 (lk rfl) (wu8 (by omega) (by omega))) rfl ?_
    refine Ops.u (Dtu.fld fa30_0 (lk rfl)) rfl ?_
    refine Ops.u (Dtu.fld fa28_1 (lk rfl)) rfl ?_
    refine Ops.d (Det.ld Try.isAgg3 (lk rfl) (Rd.ow 0 rfl rfl)) rfl ?_
    refine Ops.u (Dtu.cvt Try.underlying3 Try.underlying5 (lk rfl) (wu8 (by omega) (by omega))) rfl ?_
    refine Ops.u (Dtu.fld fa30_1 (lk rfl)) rfl ?_
    refine Ops.d (Det.ld Try.isAgg3 (lk rfl) (Rd.ow 0 rfl rfl)) rfl ?_
    refine Ops.u (Dtu.cvt Try.underlying3 Try.underlying5 (lk rfl) (wu8 (by omega) (by omega))) rfl ?_
    refine Ops.u (Dtu.fld fa30_2 (lk rfl)) rfl ?_
    refine Ops.d (Det.ld Try.isAgg3 (lk rfl) (Rd.ow 0 rfl rfl)) rfl ?_
    refine Ops.u (Dtu.cvt Try.underlying3 Try.underlying5 (lk rfl) (wu8 (by omega) (by omega))) rfl ?_
    refine Ops.u (Dtu.mv (lk rfl)) rfl ?_
    refine Ops.s (Stp.buildSliceO Try.underlying32 ty5 (by decide) (by decide) (lkp rfl) rfl rfl rfl (by decide) (fun v21 => ?_)) rfl
    refine Ops.u (Dtu.asg (lk rfl)) rfl ?_
    refine Ops.nil ?_
    refine Then.next ?_
    refine Body.ret ?_
    exact ⟨.inr rfl, _, pk [0] rfl, v21, rfl, by simp [View.head, c5]⟩
  · refine Body.skip ?_
    refine Then.next ?_
    refine Body.seq ?_
    refine Body.region ?_
    refine Ops.u (Dtu.fld fa30_0 (lk rfl)) rfl ?_
    refine Ops.u (Dtu.fld fa28_0 (lk rfl)) rfl ?_
    refine Ops.d (Det.ld Try.isAgg3 (lk rfl) (Rd.ow 0 rfl rfl)) rfl ?_
    refine Ops.u (Dtu.cvt Try.underlying3 Try.underlying5 (lk rfl) (wu8 (by omega) (by omega))) rfl ?_
    refine Ops.u (Dtu.fld fa30_0 (lk rfl)) rfl ?_
    refine Ops.u (Dtu.fld fa28_1 (lk rfl)) rfl ?_
    refine Ops.d (Det.ld Try.isAgg3 (lk rfl) (Rd.ow 0 rfl rfl)) rfl ?_
    refine Ops.u (Dtu.cvt Try.underlying3 Try.underlying5 (lk rfl) (wu8 (by omega) (by omega))) rfl ?_
    refine Ops.u (Dtu.fld fa30_1 (lk rfl)) rfl ?_
    refine Ops.d (Det.ld Try.isAgg3 (lk rfl) (Rd.ow 0 rfl rfl)) rfl ?_
    refine Ops.u (Dtu.cvt Try.underlying3 Try.underlying5 (lk rfl) (wu8 (by omega) (by omega))) rfl ?_
    refine Ops.u (Dtu.fld fa30_2 (lk rfl)) rfl ?_
    refine Ops.d (Det.ld Try.isAgg3 (lk rfl) (Rd.ow 0 rfl rfl)) rfl ?_
    refine Ops.u (Dtu.cvt Try.underlying3 Try.underlying5 (lk rfl) (wu8 (by omega) (by omega))) rfl ?_
    refine Ops.u (Dtu.mv (lk rfl)) rfl ?_
    refine Ops.s (Stp.buildSliceO Try.underlying32 ty5 (by decide) (by decide) (lkp rfl) rfl rfl rfl (by decide) (fun v21 => ?_)) rfl
    refine Ops.u (Dtu.asg (lk rfl)) rfl ?_
    refine Ops.nil ?_
    refine Then.next ?_
    refine Body.ret ?_
    exact ⟨.inr rfl, _, pk [0] rfl, v21, rfl, by simp [View.head, c5]⟩
/-- the bytes of n cells more of the first one, and of all -/
def runsN (n : Nat) : List Cell → List Int
  | [] => []
  | c :: t => runsFrom c (n + 1) t
theorem runsN_0 (xs : List Cell) : runsN 0 xs = runsB xs := by cases xs <;> rfl
theorem runsN_same {xs : List Cell} {n : Nat} (h : 1 < xs.length) (e : xs[1]! = xs[0]!) : runsN n xs = runsN (n + 1) (xs.drop 1) := by
  match xs, h with
  | c :: d :: t, _ =>
    obtain rfl : d = c := by simpa using e
    simp [runsN, runsFrom]
theorem runsN_other {xs : List Cell} {n : Nat} (h0 : 0 < xs.length) (e : ¬ (1 < xs.length ∧ xs[1]! = xs[0]!)) : runsN n xs = putL ((n + 1 : Nat) : Int) ++ xs[0]!.bytes ++ runsN 0 (xs.drop 1) := by
  match xs, h0 with
  | [c], _ => simp [runsN, runsFrom]
  | c :: d :: t, _ =>
    have : ¬ d = c := fun h => e ⟨by simp, by simpa using h⟩
    simp [runsN, runsFrom, this]
theorem rwrite_ok (E : Env) (v : View) (s : Value) (h : v.rhas E [] s) (hfl : ∀ c ∈ v.cells, c.Fl) (hk : v.ok = true) : Does Try.prog 31 #[v.val s] E [] fun r H' => ∃ s, r = s ∧ H' = [osl 5 1 s v.bytes.length (v.bytes.map (.int .u8))] := by
  unfold View.rhas at h
  obtain ⟨hfit, hall⟩ := View.ok_fits hk
  have hmb := mul_bound hfit.1
  have hlen : v.cells.length ≤ 480 := by have := hfit.2.2.2.2.2; omega
  refine Does.pure h.isSl fun hs => ?_
  obtain ⟨a, m, k, rfl⟩ := hs
  have hb0 : v.head.length = 5 := rfl
  have hb1 : v.bytes = v.head ++ runsB v.cells := rfl
  generalize hB : v.bytes = B at *
  obtain ⟨r1, c1, l1, o1, q1, v1⟩ := v
  generalize hV : View.mk r1 c1 l1 o1 q1 v1 = V at *
  refine Does.go (args := [V.val (.slice a m k)]) _ _ Try.func31 rfl Try.ntmps31 rfl rfl ?_
  subst hV
  dsimp only at h hfl hall hlen hb1
  refine Body.seq ?_
  refine Body.region ?_
  refine Ops.s (Stp.box (lk rfl) rfl (fun b1 => ?_)) rfl
  refine Ops.u (Dtu.asg (lk rfl)) rfl ?_
  refine Ops.nil ?_
  refine Then.next ?_
  refine Body.seq ?_
  refine Body.region ?_
  refine Ops.d (Det.lda Try.isAgg30 Try.sizeOf30 (lk rfl) (Rds.ow (m := 6) 0 rfl rfl) rfl) rfl ?_
  refine Ops.s (Stp.call rfl Try.call61 (lks rfl) (fun E' le hat => rhead_ok E' ⟨_, _, _, _, _, _⟩ _ _ _ (by assumption)) ?_) rfl
  rintro _ _ ⟨s7, rfl, rfl⟩
  refine Ops.u (Dtu.asg (lk rfl)) rfl ?_
  refine Ops.nil ?_
  refine Then.next ?_
  refine Body.seq ?_
  refine Body.region ?_
  refine Ops.u (Dtu.asg (lk rfl)) rfl ?_
  refine Ops.nil ?_
  refine Then.next ?_
  refine Body.seq ?_
  refine Body.seq ?_
  refine Body.region ?_
  refine Ops.u (Dtu.asg (lk rfl)) rfl ?_
  refine Ops.nil ?_
  refine Then.next ?_
  refine Body.block ?_
  refine Body.loopF (γ := Nat × Nat × Value × List Int) rfl (fun g => [(5, .int .i64 g.1), (4, .int .i64 g.2.1), (3, g.2.2.1)]) (fun g => [osl 5 1 g.2.2.1 g.2.2.2.length (g.2.2.2.map (.int .u8)), own b1 [.int .i64 r1, .int .i64 c1, .slice a m k, .int .i64 o1, .int .i64 q1, .bool v1] 30])
    (fun g => g.1 ≤ l1.length ∧ g.2.1 ≤ g.1 ∧ g.2.2.2 ++ runsN g.2.1 (l1.drop g.1) = B ∧ g.2.2.2.length ≤ 5 + 40 * g.1) (fun g => l1.length - g.1) (0, 0, s7, View.head ⟨r1, c1, l1, o1, q1, v1⟩) ⟨by simp, by simp, by simp [runsN_0, hb1], by simp [hb0]⟩ ⟨rfl, rfl, rfl, trivial⟩ rfl ?_
  rintro ⟨i, n, O, bs⟩ u ⟨hi, hn, hbs, hl⟩
  dsimp only at hi hn hbs hl ⊢
  refine Body.seq ?_
  refine Body.seq ?_
  refine Body.region ?_
  refine Ops.u (Dtu.mv (lk rfl)) rfl ?_
  refine Ops.u (Dtu.fld fa30_0 (lk rfl)) rfl ?_
  refine Ops.u (Dtu.fld fa28_2 (lk rfl)) rfl ?_
  refine Ops.d (Det.ld Try.isAgg26 (lk rfl) (Rd.ow 1 rfl rfl)) rfl ?_
  refine Ops.u (Dtu.lenS Try.underlying26 (Sl.up h) (lk rfl)) rfl ?_
  refine Ops.u (Dtu.lss (lk rfl) (lk rfl)) rfl ?_
  refine Ops.nil ?_
  refine Then.next ?_
  refine Body.condP (lk rfl) (fun c13 => ?_) (fun c13 => ?_)
  · have hc1 : l1[i]!.ok = true := by rw [getElem!_pos l1 i (by omega)]; exact hall _ (List.getElem_mem _)
    have hc2 : l1[i]!.Fl := by rw [getElem!_pos l1 i (by omega)]; exact hfl _ (List.getElem_mem _)
    have e0 : (l1.drop i)[0]! = l1[i]! := by rw [getElem!_pos (l1.drop i) 0 (by simp; omega), getElem!_pos l1 i (by omega)]; simp
    have e1 : i + 1 < l1.length → (l1.drop i)[1]! = l1[i + 1]! := fun h => by rw [getElem!_pos (l1.drop i) 1 (by simp; omega), getElem!_pos l1 (i + 1) (by omega)]; simp
    obtain ⟨hc3, hc4⟩ := hc2
    refine Body.skip ?_
    refine Then.next ?_
    refine Body.seq ?_
    refine Body.block ?_
    refine Body.seq ?_
    refine Body.region ?_
    refine Ops.u (Dtu.mv (lk rfl)) rfl ?_
    refine Ops.u (Dtu.add (lk rfl) (lk rfl) (w64 (by omega) (by omega))) rfl ?_
    refine Ops.u (Dtu.asg (lk rfl)) rfl ?_
    refine Ops.nil ?_
    refine Then.next ?_
    refine Body.seq ?_
    refine Body.seq ?_
    refine Body.draw mixed ?_
    refine AB.u 0 rfl (by decide +kernel) (Dtu.mv (lk rfl)) rfl ?_
    refine AB.u 1 rfl (by decide +kernel) (Dtu.add (lk rfl) (lk rfl) (w64 (by omega) (by omega))) rfl ?_
    refine AB.u 2 rfl (by decide +kernel) (Dtu.fld fa30_0 (lk rfl)) rfl ?_
    refine AB.u 3 rfl (by decide +kernel) (Dtu.fld fa28_2 (lk rfl)) rfl ?_
    refine AB.d 4 rfl (by decide +kernel) rfl (Det.ld Try.isAgg26 (lk rfl) (Rd.ow 1 rfl rfl)) rfl ?_
    refine AB.u 5 rfl (by decide +kernel) (Dtu.lenS Try.underlying26 (Sl.up h) (lk rfl)) rfl ?_
    refine AB.u 6 rfl (by decide +kernel) (Dtu.lss (lk rfl) (lk rfl)) rfl ?_
    refine AB.u 7 rfl (by decide +kernel) (Dtu.mv (lk rfl)) rfl ?_
    refine AB.decP 25 rfl (fun c25 => ?_) (fun c25 => ?_)
    · have hc5 : l1[i + 1]!.Fl := by rw [getElem!_pos l1 (i + 1) (by omega)]; exact hfl _ (List.getElem_mem _)
      have hq := reqB_iff hc5 ⟨hc3, hc4⟩
      refine AB.gu 8 rfl (by decide +kernel) rfl rfl rfl (Dtu.fld fa30_0 (lk rfl)) rfl ?_
      refine AB.gu 9 rfl (by decide +kernel) rfl rfl rfl (Dtu.fld fa28_2 (lk rfl)) rfl ?_
      refine AB.gd 10 rfl (by decide +kernel) rfl rfl rfl rfl (Det.ld Try.isAgg26 (lk rfl) (Rd.ow 1 rfl rfl)) rfl ?_
      refine AB.gu 11 rfl (by decide +kernel) rfl rfl rfl (Dtu.mv (lk rfl)) rfl ?_
      refine AB.gu 12 rfl (by decide +kernel) rfl rfl rfl (Dtu.add (lk rfl) (lk rfl) (w64 (by omega) (by omega))) rfl ?_
      refine AB.gu 13 rfl (by decide +kernel) rfl rfl rfl (Dtu.ix (i := (i + 1)) Try.underlying26 Try.sizeOf65 (Sl.up h) (lk rfl) (lk rfl) (by omega) (by omega)) rfl ?_
      refine AB.gd 14 rfl (by decide +kernel) rfl rfl rfl rfl (Det.lda Try.isAgg65 Try.sizeOf65 (lk rfl) (Rds.sl (Sl.up h) (gf (sz := 11) (fun _ => rfl) (by omega))) rfl) rfl ?_
      refine AB.gu 15 rfl (by decide +kernel) rfl rfl rfl (Dtu.fld fa30_0 (lk rfl)) rfl ?_
      refine AB.gu 16 rfl (by decide +kernel) rfl rfl rfl (Dtu.fld fa28_2 (lk rfl)) rfl ?_
      refine AB.gd 17 rfl (by decide +kernel) rfl rfl rfl rfl (Det.ld Try.isAgg26 (lk rfl) (Rd.ow 1 rfl rfl)) rfl ?_
      refine AB.gu 18 rfl (by decide +kernel) rfl rfl rfl (Dtu.mv (lk rfl)) rfl ?_
      refine AB.gu 19 rfl (by decide +kernel) rfl rfl rfl (Dtu.ix (i := (i)) Try.underlying26 Try.sizeOf65 (Sl.up h) (lk rfl) (lk rfl) (by omega) (by omega)) rfl ?_
      refine AB.gd 20 rfl (by decide +kernel) rfl rfl rfl rfl (Det.lda Try.isAgg65 Try.sizeOf65 (lk rfl) (Rds.sl (Sl.up h) (gf (sz := 11) (fun _ => rfl) (by omega))) rfl) rfl ?_
      refine AB.gu 21 rfl (by decide +kernel) rfl rfl rfl (Dtu.eqS eqGuard65 (eq65 _ _) (lk rfl) (lk rfl)) rfl ?_
      refine AB.u 22 rfl (by decide +kernel) (Dtu.pickT (lk rfl) (lk rfl)) rfl ?_
      refine AB.done (by decide +kernel) ?_
      refine Then.next ?_
      refine Body.cond (lk rfl) (fun c40 => ?_) (fun c40 => ?_)
      · refine Body.exit ?_
        refine Then.exit ?_
        refine Blk.here ?_
        refine Then.next ?_
        refine Body.region ?_
        refine Ops.u (Dtu.mv (lk rfl)) rfl ?_
        refine Ops.u (Dtu.add (lk rfl) (lk rfl) (w64 (by omega) (by omega))) rfl ?_
        refine Ops.u (Dtu.asg (lk rfl)) rfl ?_
        refine Ops.nil ?_
        refine Round.goK [0, 0] (i + 1, n + 1, O, bs) rfl rfl rfl ⟨int_eq (by simp), int_eq (by simp), rfl, trivial⟩ rfl rfl ⟨by dsimp only; omega, by dsimp only; omega, ?_, by dsimp only; omega⟩ (by dsimp only; omega)
        dsimp only
        rw [← hbs, runsN_same (xs := l1.drop i) (n := n) (by simp; omega) (by rw [e0, e1 (by omega)]; exact hq.1 (by simpa using c40)), List.drop_drop]
      · have hne : ¬ (1 < (l1.drop i).length ∧ (l1.drop i)[1]! = (l1.drop i)[0]!) := fun ⟨_, e⟩ => by
          rw [e0, e1 (by omega)] at e
          rw [hq.2 e] at c40; simp at c40
        have hz := sizeS_le ((n : Int) + 1)
        have hz1 : bs.length ≤ 20000 := by omega
        have hz3 := Cell.size_13 hc1
        have hz2 := Cell.bytes_len l1[i]!
        refine Body.skip ?_
        refine Then.next ?_
        refine Body.seq ?_
        refine Body.region ?_
        refine Ops.u (Dtu.mv (lk rfl)) rfl ?_
        refine Ops.u (Dtu.mv (lk rfl)) rfl ?_
        refine Ops.u (Dtu.cvt Try.underlying3 Try.underlying75 (lk rfl) (wu64 (by omega) (by omega))) rfl ?_
        refine Ops.s (Stp.call rfl Try.call63 (lks rfl) (fun E' le hat => rput_ok E' _ (by omega) (by omega)) ?_) rfl
        rintro _ _ ⟨sp44, rfl, rfl⟩
        refine Ops.s (Stp.append 1 Try.underlying32 ty5 rfl rfl (lk rfl) (lk rfl) (Sl.osl 0 rfl) (by first | rfl | exact all_map (fun _ => rfl) _ | exact all_flat (fun _ => rfl) _) (by omega) (by omega) (fun v45 => ?_)) rfl
        refine Ops.u (Dtu.asg (lk rfl)) rfl ?_
        refine Ops.nil ?_
        refine Then.next ?_
        refine Body.seq ?_
        refine Body.region ?_
        refine Ops.u (Dtu.mv (lk rfl)) rfl ?_
        refine Ops.u (Dtu.fld fa30_0 (lk rfl)) rfl ?_
        refine Ops.u (Dtu.fld fa28_2 (lk rfl)) rfl ?_
        refine Ops.d (Det.ld Try.isAgg26 (lk rfl) (Rd.ow 2 rfl rfl)) rfl ?_
        refine Ops.u (Dtu.mv (lk rfl)) rfl ?_
        refine Ops.u (Dtu.ix (i := (i)) Try.underlying26 Try.sizeOf65 (Sl.up h) (lk rfl) (lk rfl) (by omega) (by omega)) rfl ?_
        refine Ops.d (Det.lda Try.isAgg65 Try.sizeOf65 (lk rfl) (Rds.sl (Sl.up h) (gf (sz := 11) (fun _ => rfl) (by omega))) rfl) rfl ?_
        refine Ops.s (Stp.call rfl Try.call37 (lks rfl) (fun E' le hat => rputCell_ok E' ⟨_, _, _, _⟩ (by constructor <;> assumption) (by assumption)) ?_) rfl
        rintro _ _ ⟨s53, hz53, rfl, rfl⟩
        refine Ops.s (Stp.append 2 Try.underlying32 ty5 rfl rfl (lk rfl) (lk rfl) (Sl.osl 0 rfl) (by first | rfl | exact all_map (fun _ => rfl) _ | exact all_flat (fun _ => rfl) _) (by omega) (by omega) (fun v54 => ?_)) rfl
        refine Ops.u (Dtu.asg (lk rfl)) rfl ?_
        refine Ops.nil ?_
        refine Then.next ?_
        refine Body.region ?_
        refine Ops.u (Dtu.asg (lk rfl)) rfl ?_
        refine Ops.nil ?_
        refine Blk.norm ?_
        refine Then.next ?_
        refine Body.region ?_
        refine Ops.u (Dtu.mv (lk rfl)) rfl ?_
        refine Ops.u (Dtu.add (lk rfl) (lk rfl) (w64 (by omega) (by omega))) rfl ?_
        refine Ops.u (Dtu.asg (lk rfl)) rfl ?_
        refine Ops.nil ?_
        refine Round.goK [2, 2] (i + 1, 0, v54, bs ++ putL ((n : Int) + 1) ++ l1[i]!.bytes) rfl rfl rfl ⟨int_eq (by simp), rfl, rfl, trivial⟩ rfl ?_ ⟨by dsimp only; omega, by dsimp only; omega, ?_, ?_⟩ (by dsimp only; omega)
        · simp [putL_len, Cell.bytes_len, Nat.add_assoc]
        · dsimp only
          rw [← hbs, runsN_other (xs := l1.drop i) (n := n) (by simp; omega) hne, e0, List.drop_drop]
          simp
        · dsimp only
          simp only [List.length_append, putL_len]
          omega
    · have hne : ¬ (1 < (l1.drop i).length ∧ (l1.drop i)[1]! = (l1.drop i)[0]!) := fun ⟨e, _⟩ => by simp at e; omega
      have hz := sizeS_le ((n : Int) + 1)
      have hz1 : bs.length ≤ 20000 := by omega
      have hz3 := Cell.size_13 hc1
      have hz2 := Cell.bytes_len l1[i]!
      refine AB.gn 8 rfl (by decide +kernel) rfl rfl rfl rfl rfl ?_
      refine AB.gn 9 rfl (by decide +kernel) rfl rfl rfl rfl rfl ?_
      refine AB.gn 10 rfl (by decide +kernel) rfl rfl rfl rfl rfl ?_
      refine AB.gn 11 rfl (by decide +kernel) rfl rfl rfl rfl rfl ?_
      refine AB.gn 12 rfl (by decide +kernel) rfl rfl rfl rfl rfl ?_
      refine AB.gn 13 rfl (by decide +kernel) rfl rfl rfl rfl rfl ?_
      refine AB.gn 14 rfl (by decide +kernel) rfl rfl rfl rfl rfl ?_
      refine AB.gn 15 rfl (by decide +kernel) rfl rfl rfl rfl rfl ?_
      refine AB.gn 16 rfl (by decide +kernel) rfl rfl rfl rfl rfl ?_
      refine AB.gn 17 rfl (by decide +kernel) rfl rfl rfl rfl rfl ?_
      refine AB.gn 18 rfl (by decide +kernel) rfl rfl rfl rfl rfl ?_
      refine AB.gn 19 rfl (by decide +kernel) rfl rfl rfl rfl rfl ?_
      refine AB.gn 20 rfl (by decide +kernel) rfl rfl rfl rfl rfl ?_
      refine AB.gn 21 rfl (by decide +kernel) rfl rfl rfl rfl rfl ?_
      refine AB.u 22 rfl (by decide +kernel) (Dtu.pickF (lk rfl) (lk rfl)) rfl ?_
      refine AB.done (by decide +kernel) ?_
      refine Then.next ?_
      refine Body.condF (lk rfl) ?_
      refine Body.skip ?_
      refine Then.next ?_
      refine Body.seq ?_
      refine Body.region ?_
      refine Ops.u (Dtu.mv (lk rfl)) rfl ?_
      refine Ops.u (Dtu.mv (lk rfl)) rfl ?_
      refine Ops.u (Dtu.cvt Try.underlying3 Try.underlying75 (lk rfl) (wu64 (by omega) (by omega))) rfl ?_
      refine Ops.s (Stp.call rfl Try.call63 (lks rfl) (fun E' le hat => rput_ok E' _ (by omega) (by omega)) ?_) rfl
      rintro _ _ ⟨sp44, rfl, rfl⟩
      refine Ops.s (Stp.append 1 Try.underlying32 ty5 rfl rfl (lk rfl) (lk rfl) (Sl.osl 0 rfl) (by first | rfl | exact all_map (fun _ => rfl) _ | exact all_flat (fun _ => rfl) _) (by omega) (by omega) (fun v45 => ?_)) rfl
      refine Ops.u (Dtu.asg (lk rfl)) rfl ?_
      refine Ops.nil ?_
      refine Then.next ?_
      refine Body.seq ?_
      refine Body.region ?_
      refine Ops.u (Dtu.mv (lk rfl)) rfl ?_
      refine Ops.u (Dtu.fld fa30_0 (lk rfl)) rfl ?_
      refine Ops.u (Dtu.fld fa28_2 (lk rfl)) rfl ?_
      refine Ops.d (Det.ld Try.isAgg26 (lk rfl) (Rd.ow 2 rfl rfl)) rfl ?_
      refine Ops.u (Dtu.mv (lk rfl)) rfl ?_
      refine Ops.u (Dtu.ix (i := (i)) Try.underlying26 Try.sizeOf65 (Sl.up h) (lk rfl) (lk rfl) (by omega) (by omega)) rfl ?_
      refine Ops.d (Det.lda Try.isAgg65 Try.sizeOf65 (lk rfl) (Rds.sl (Sl.up h) (gf (sz := 11) (fun _ => rfl) (by omega))) rfl) rfl ?_
      refine Ops.s (Stp.call rfl Try.call37 (lks rfl) (fun E' le hat => rputCell_ok E' ⟨_, _, _, _⟩ (by constructor <;> assumption) (by assumption)) ?_) rfl
      rintro _ _ ⟨s53, hz53, rfl, rfl⟩
      refine Ops.s (Stp.append 2 Try.underlying32 ty5 rfl rfl (lk rfl) (lk rfl) (Sl.osl 0 rfl) (by first | rfl | exact all_map (fun _ => rfl) _ | exact all_flat (fun _ => rfl) _) (by omega) (by omega) (fun v54 => ?_)) rfl
      refine Ops.u (Dtu.asg (lk rfl)) rfl ?_
      refine Ops.nil ?_
      refine Then.next ?_
      refine Body.region ?_
      refine Ops.u (Dtu.asg (lk rfl)) rfl ?_
      refine Ops.nil ?_
      refine Blk.norm ?_
      refine Then.next ?_
      refine Body.region ?_
      refine Ops.u (Dtu.mv (lk rfl)) rfl ?_
      refine Ops.u (Dtu.add (lk rfl) (lk rfl) (w64 (by omega) (by omega))) rfl ?_
      refine Ops.u (Dtu.asg (lk rfl)) rfl ?_
      refine Ops.nil ?_
      refine Round.goK [2, 2] (i + 1, 0, v54, bs ++ putL ((n : Int) + 1) ++ l1[i]!.bytes) rfl rfl rfl ⟨int_eq (by simp), rfl, rfl, trivial⟩ rfl ?_ ⟨by dsimp only; omega, by dsimp only; omega, ?_, ?_⟩ (by dsimp only; omega)
      · simp [putL_len, Cell.bytes_len, Nat.add_assoc]
      · dsimp only
        rw [← hbs, runsN_other (xs := l1.drop i) (n := n) (by simp; omega) hne, e0, List.drop_drop]
        simp
      · dsimp only
        simp only [List.length_append, putL_len]
        omega
  · obtain rfl : i = l1.length := by omega
    have hb : bs = B := by rw [← hbs]; simp [runsN]
    subst hb
    refine Body.exit ?_
    refine Then.exit ?_
    refine Round.exit ?_
    refine Blk.here ?_
    refine Then.next ?_
    refine Body.seq ?_
    refine Body.region ?_
    refine Ops.u (Dtu.mv (lk rfl)) rfl ?_
    refine Ops.u (Dtu.asg (lk rfl)) rfl ?_
    refine Ops.nil ?_
    refine Then.next ?_
    refine Body.ret ?_
    exact ⟨.inr rfl, _, pk [0] rfl, O, rfl, rfl⟩
end Go.Proofs.Ytijjjdljdjnbaaa
end
section
/- The document's views out of bytes. -/
namespace Go.Proofs.Ytijjjdljdjnbaaa
set_option maxRecDepth 100000
set_option linter.unusedVariables false
set_option linter.unusedSimpArgs false
open Go.Sx

theorem readV_not {bs : List Int} {cs : List Cell} {a : Int} (h : readAll bs = (cs, a)) (ha : a ≠ bs.length) : readV bs = none := by
  unfold readV
  split
  · rfl
  · rw [if_neg (by rintro ⟨e, _⟩; rw [h] at e; exact ha e)]
theorem styleR_cols (bs : List Int) (hb : Byt bs) (p : Int) : 0 ≤ (styleR bs p).1.2.1 ∧ (styleR bs p).1.2.1 < 4294967296 ∧ 0 ≤ (styleR bs p).1.2.2 ∧ (styleR bs p).1.2.2 < 4294967296 := by
  have a1 := getS_bound bs hb (p + 1)
  have a2 := getS_bound bs hb (getS bs (p + 1)).2.1
  unfold styleR
  dsimp only
  (repeat' split) <;> dsimp only <;> omega
theorem cellR_cols (bs : List Int) (hb : Byt bs) (p : Int) : (cellR bs p).1.Cols := by
  have := styleR_cols bs hb p
  unfold cellR Cell.Cols
  dsimp only
  (repeat' split) <;> first | exact this | simp
theorem readCells_cols (bs : List Int) (hb : Byt bs) : ∀ (k : Nat) (cs : List Cell) (a : Int), (∀ c ∈ cs, c.Cols) → ∀ c ∈ (readCells bs k cs a).1, c.Cols
  | 0, cs, a, h => h
  | k + 1, cs, a, h => by
    unfold readCells
    split
    · split
      · exact h
      · split
        · exact h
        · refine readCells_cols bs hb k _ _ fun c hc => ?_
          rcases List.mem_append.1 hc with h1 | h1
          · exact h c h1
          · rw [List.mem_replicate] at h1
            rw [h1.2]; exact cellR_cols bs hb _
    · exact h
set_option maxHeartbeats 3200000 in
theorem rread_ok (E : Env) (b : Value) (bs : List Int) (h : Sl E [] 1 b bs.length (bs.map (.int .u8))) (hb : Byt bs) : Does Try.prog 30 #[b] E [] fun r H' =>
    match readV bs with
    | some v => ∃ s, r = .tuple #[v.val s, .bool true] ∧ H' = [osl 65 11 s v.cells.length (v.cells.flatMap Cell.renc)]
    | none => r = .tuple #[View.none.val (.slice none 0 0), .bool false] ∧ H' = [] := by
  refine Does.pure h.len fun hlen => ?_
  refine Does.go (args := [b]) _ _ Try.func30 rfl Try.ntmps30 rfl rfl ?_
  refine Body.seq ?_
  refine Body.region ?_
  refine Ops.s (Stp.alloc ty30 (fun b2 => ?_)) rfl
  refine Ops.u (Dtu.asg (lk rfl)) rfl ?_
  refine Ops.nil ?_
  refine Then.next ?_
  refine Body.seq ?_
  refine Body.seq ?_
  refine Body.region ?_
  refine Ops.u (Dtu.mv (lk rfl)) rfl ?_
  refine Ops.u (Dtu.lenS Try.underlying32 (Sl.up h) (lk rfl)) rfl ?_
  refine Ops.u (Dtu.lss (lk rfl) (lk rfl)) rfl ?_
  refine Ops.u (Dtu.mv (lk rfl)) rfl ?_
  refine Ops.decP 16 rfl (fun c16 => ?_) (fun c16 => ?_)
  · refine Ops.gn rfl rfl rfl rfl rfl ?_
    refine Ops.gn rfl rfl rfl rfl rfl ?_
    refine Ops.gn rfl rfl rfl rfl rfl ?_
    refine Ops.gn rfl rfl rfl rfl rfl ?_
    refine Ops.u (Dtu.pickT (lk rfl) (lk rfl)) rfl ?_
    refine Ops.nil ?_
    refine Then.next ?_
    refine Body.condT (lk rfl) ?_
    refine Body.seq ?_
    refine Body.region ?_
    refine Ops.u (Dtu.build ty30 pl30 (lkp rfl) rfl rfl) rfl ?_
    refine Ops.e (Stp.store 0 Try.sizeOf30 (lk rfl) (lk rfl) rfl rfl rfl rfl rfl rfl rfl ?_)
    refine Ops.u (Dtu.asg (lk rfl)) rfl ?_
    refine Ops.nil ?_
    refine Then.next ?_
    refine Body.ret ?_
    refine Then.ret ?_
    refine ⟨.inr rfl, _, Loads.agg Try.isAgg30 Try.sizeOf30 (Rds.ow (m := 6) 0 rfl rfl) rfl, _, pk [] rfl, ?_⟩
    rw [show readV bs = none by unfold readV; rw [if_pos (.inl (by omega))]]
    exact ⟨rfl, rfl⟩
  · have d0 := hb 0 (by omega)
    have d1 := hb 1 (by omega)
    have d2 := hb 2 (by omega)
    have d3 := hb 3 (by omega)
    have d4 := hb 4 (by omega)
    refine Ops.gu rfl rfl rfl (Dtu.mv (lk rfl)) rfl ?_
    refine Ops.gu rfl rfl rfl (Dtu.ix (i := 4) Try.underlying32 Try.sizeOf5 (Sl.up h) (lk rfl) (lk rfl) (by omega) (by omega)) rfl ?_
    refine Ops.gd rfl rfl rfl (Det.ld Try.isAgg5 (lk rfl) (Rd.sl (Sl.up h) (gm (by omega)))) rfl ?_
    refine Ops.gu rfl rfl rfl (Dtu.gtr (lk rfl) (lk rfl)) rfl ?_
    refine Ops.u (Dtu.pickF (lk rfl) (lk rfl)) rfl ?_
    refine Ops.nil ?_
    refine Then.next ?_
    refine Body.condP (lk rfl) (fun c21 => ?_) (fun c21 => ?_)
    · refine Body.seq ?_
      refine Body.region ?_
      refine Ops.u (Dtu.build ty30 pl30 (lkp rfl) rfl rfl) rfl ?_
      refine Ops.e (Stp.store 0 Try.sizeOf30 (lk rfl) (lk rfl) rfl rfl rfl rfl rfl rfl rfl ?_)
      refine Ops.u (Dtu.asg (lk rfl)) rfl ?_
      refine Ops.nil ?_
      refine Then.next ?_
      refine Body.ret ?_
      refine Then.ret ?_
      refine ⟨.inr rfl, _, Loads.agg Try.isAgg30 Try.sizeOf30 (Rds.ow (m := 6) 0 rfl rfl) rfl, _, pk [] rfl, ?_⟩
      rw [show readV bs = none by unfold readV; rw [if_pos (.inr (by omega))]]
      exact ⟨rfl, rfl⟩
    · refine Body.skip ?_
      refine Then.next ?_
      refine Body.seq ?_
      refine Body.draw mixed ?_
      refine AB.u 0 rfl (by decide +kernel) (Dtu.mv (lk rfl)) rfl ?_
      refine AB.u 1 rfl (by decide +kernel) (Dtu.ix (i := 0) Try.underlying32 Try.sizeOf5 (Sl.up h) (lk rfl) (lk rfl) (by omega) (by omega)) rfl ?_
      refine AB.d 2 rfl (by decide +kernel) rfl (Det.ld Try.isAgg5 (lk rfl) (Rd.sl (Sl.up h) (gm (by omega)))) rfl ?_
      refine AB.u 3 rfl (by decide +kernel) (Dtu.cvt Try.underlying5 Try.underlying3 (lk rfl) (w64 (by omega) (by omega))) rfl ?_
      refine AB.u 4 rfl (by decide +kernel) (Dtu.mv (lk rfl)) rfl ?_
      refine AB.u 5 rfl (by decide +kernel) (Dtu.ix (i := 1) Try.underlying32 Try.sizeOf5 (Sl.up h) (lk rfl) (lk rfl) (by omega) (by omega)) rfl ?_
      refine AB.d 6 rfl (by decide +kernel) rfl (Det.ld Try.isAgg5 (lk rfl) (Rd.sl (Sl.up h) (gm (by omega)))) rfl ?_
      refine AB.u 7 rfl (by decide +kernel) (Dtu.cvt Try.underlying5 Try.underlying3 (lk rfl) (w64 (by omega) (by omega))) rfl ?_
      refine AB.u 8 rfl (by decide +kernel) (Dtu.build ty28 pl28 (lkp rfl) rfl rfl) rfl ?_
      refine AB.u 9 rfl (by decide +kernel) (Dtu.mv (lk rfl)) rfl ?_
      refine AB.u 10 rfl (by decide +kernel) (Dtu.ix (i := 2) Try.underlying32 Try.sizeOf5 (Sl.up h) (lk rfl) (lk rfl) (by omega) (by omega)) rfl ?_
      refine AB.d 11 rfl (by decide +kernel) rfl (Det.ld Try.isAgg5 (lk rfl) (Rd.sl (Sl.up h) (gm (by omega)))) rfl ?_
      refine AB.u 12 rfl (by decide +kernel) (Dtu.cvt Try.underlying5 Try.underlying3 (lk rfl) (w64 (by omega) (by omega))) rfl ?_
      refine AB.u 13 rfl (by decide +kernel) (Dtu.mv (lk rfl)) rfl ?_
      refine AB.u 14 rfl (by decide +kernel) (Dtu.ix (i := 3) Try.underlying32 Try.sizeOf5 (Sl.up h) (lk rfl) (lk rfl) (by omega) (by omega)) rfl ?_
      refine AB.d 15 rfl (by decide +kernel) rfl (Det.ld Try.isAgg5 (lk rfl) (Rd.sl (Sl.up h) (gm (by omega)))) rfl ?_
      refine AB.u 16 rfl (by decide +kernel) (Dtu.cvt Try.underlying5 Try.underlying3 (lk rfl) (w64 (by omega) (by omega))) rfl ?_
      refine AB.u 17 rfl (by decide +kernel) (Dtu.mv (lk rfl)) rfl ?_
      refine AB.u 18 rfl (by decide +kernel) (Dtu.ix (i := 4) Try.underlying32 Try.sizeOf5 (Sl.up h) (lk rfl) (lk rfl) (by omega) (by omega)) rfl ?_
      refine AB.d 19 rfl (by decide +kernel) rfl (Det.ld Try.isAgg5 (lk rfl) (Rd.sl (Sl.up h) (gm (by omega)))) rfl ?_
      refine AB.u 20 rfl (by decide +kernel) (Dtu.eql (lk rfl) (lk rfl)) rfl ?_
      refine AB.u 21 rfl (by decide +kernel) (Dtu.build ty30 pl30 (lkp rfl) rfl rfl) rfl ?_
      refine AB.s 22 rfl (by decide +kernel) (by decide +kernel) (Stp.alloc ty30 (fun b4 => ?_)) rfl
      refine AB.e 23 rfl (by decide +kernel) (by decide +kernel) (Stp.store 0 Try.sizeOf30 (lk rfl) (lk rfl) rfl rfl rfl rfl rfl rfl rfl ?_)
      refine AB.done (by decide +kernel) ?_
      refine Then.next ?_
      refine Body.seq ?_
      refine Body.region ?_
      refine Ops.u (Dtu.asg (lk rfl)) rfl ?_
      refine Ops.nil ?_
      refine Then.next ?_
      refine Body.seq ?_
      refine Body.block ?_
      refine Body.conseq (H' := [osl 65 11 (.slice none 0 0) 0 [], own b4 [.int .i64 bs[0]!, .int .i64 bs[1]!, .slice none 0 0, .int .i64 bs[2]!, .int .i64 bs[3]!, .bool (decide (bs[4]! = 1))] 30, own b2 [.int .i64 0, .int .i64 0, .slice none 0 0, .int .i64 0, .int .i64 0, .bool false] 30]) (fun w s => osl_nil s) ?_
      refine Body.loopF (γ := Nat × List Cell × Int × Value) rfl (fun g => [(5, .int .i64 g.2.2.1)]) (fun g => [osl 65 11 g.2.2.2 g.2.1.length (g.2.1.flatMap Cell.renc), own b4 [.int .i64 bs[0]!, .int .i64 bs[1]!, g.2.2.2, .int .i64 bs[2]!, .int .i64 bs[3]!, .bool (decide (bs[4]! = 1))] 30, own b2 [.int .i64 0, .int .i64 0, .slice none 0 0, .int .i64 0, .int .i64 0, .bool false] 30])
        (fun g => readCells bs g.1 g.2.1 g.2.2.1 = readAll bs ∧ 0 ≤ g.2.2.1 ∧ g.2.2.1 ≤ bs.length ∧ (bs.length : Int) - g.2.2.1 < g.1 ∧ g.2.1.length ≤ 960) (fun g => g.1) (bs.length + 1, [], 5, .slice none 0 0) ⟨rfl, by simp, by simp; omega, by simp; omega, by simp⟩ ⟨rfl, trivial⟩ rfl ?_
      rintro ⟨k, cs, a, O⟩ u ⟨hr, ha0, ha1, hk, hn⟩
      dsimp only at hr ha0 ha1 hk hn ⊢
      obtain ⟨k, rfl⟩ : ∃ k', k = k' + 1 := ⟨k - 1, by omega⟩
      have g1 := getS_bound bs hb a
      have g2 := getS_next bs a
      rw [readCells] at hr
      refine Body.pure (Sl.isSl (Sl.osl 0 rfl)) fun hO => ?_
      obtain ⟨oa, om, oc, rfl⟩ := hO
      refine Body.seq ?_
      refine Body.seq ?_
      refine Body.region ?_
      refine Ops.u (Dtu.mv (lk rfl)) rfl ?_
      refine Ops.u (Dtu.mv (lk rfl)) rfl ?_
      refine Ops.u (Dtu.lenS Try.underlying32 (Sl.up h) (lk rfl)) rfl ?_
      refine Ops.u (Dtu.lss (lk rfl) (lk rfl)) rfl ?_
      refine Ops.nil ?_
      refine Then.next ?_
      refine Body.condP (lk rfl) (fun c48 => ?_) (fun c48 => ?_)
      · rw [if_pos c48] at hr
        refine Body.skip ?_
        refine Then.next ?_
        refine Body.block ?_
        refine Body.seq ?_
        refine Body.region ?_
        refine Ops.u (Dtu.mv (lk rfl)) rfl ?_
        refine Ops.u (Dtu.mv (lk rfl)) rfl ?_
        refine Ops.s (Stp.call rfl Try.call66 (lks rfl) (fun E' le hat => rget_ok E' _ _ _ (Sl.mono (by assumption) le) (by assumption)) ?_) rfl
        rintro _ _ ⟨rfl, rfl⟩
        refine Ops.u (Dtu.mv (lk rfl)) rfl ?_
        refine Ops.u (Dtu.ext (lk rfl) rfl) rfl ?_
        refine Ops.u (Dtu.ext (lk rfl) rfl) rfl ?_
        refine Ops.u (Dtu.ext (lk rfl) rfl) rfl ?_
        refine Ops.u (Dtu.asg (lk rfl)) rfl ?_
        refine Ops.u (Dtu.asg (lk rfl)) rfl ?_
        refine Ops.u (Dtu.asg (lk rfl)) rfl ?_
        refine Ops.nil ?_
        refine Then.next ?_
        refine Body.seq ?_
        refine Body.seq ?_
        refine Body.region ?_
        refine Ops.u (Dtu.mv (lk rfl)) rfl ?_
        refine Ops.u (Dtu.neq (lk rfl) (lk rfl)) rfl ?_
        refine Ops.u (Dtu.mv (lk rfl)) rfl ?_
        refine Ops.decP 58 rfl (fun c58 => ?_) (fun c58 => ?_)
        · have hf : True := trivial
          rw [if_pos (.inl (by omega))] at hr
          refine Ops.gn rfl rfl rfl rfl rfl ?_
          refine Ops.gn rfl rfl rfl rfl rfl ?_
          refine Ops.u (Dtu.pickT (lk rfl) (lk rfl)) rfl ?_
          refine Ops.u (Dtu.mv (lk rfl)) rfl ?_
          refine Ops.gn rfl rfl rfl rfl rfl ?_
          refine Ops.gn rfl rfl rfl rfl rfl ?_
          refine Ops.gn rfl rfl rfl rfl rfl ?_
          refine Ops.gn rfl rfl rfl rfl rfl ?_
          refine Ops.gn rfl rfl rfl rfl rfl ?_
          refine Ops.u (Dtu.pickT (lk rfl) (lk rfl)) rfl ?_
          refine Ops.nil ?_
          refine Then.next ?_
          refine Body.condT (lk rfl) ?_
          refine Body.seq ?_
          refine Body.region ?_
          refine Ops.u (Dtu.build ty30 pl30 (lkp rfl) rfl rfl) rfl ?_
          refine Ops.e (Stp.store 2 Try.sizeOf30 (lk rfl) (lk rfl) rfl rfl rfl rfl rfl rfl rfl ?_)
          refine Ops.u (Dtu.asg (lk rfl)) rfl ?_
          refine Ops.nil ?_
          refine Then.next ?_
          refine Body.ret ?_
          refine Then.ret ?_
          refine Blk.ret ?_
          refine Round.ret ?_
          refine Blk.ret ?_
          refine Then.ret ?_
          rw [readV_not hr.symm (by omega)]
          exact ⟨.inr rfl, _, Loads.agg Try.isAgg30 Try.sizeOf30 (Rds.ow (m := 6) 2 rfl rfl) rfl, _, pk [] rfl, rfl, rfl⟩
        · refine Ops.gu rfl rfl rfl (Dtu.mv (lk rfl)) rfl ?_
          refine Ops.gu rfl rfl rfl (Dtu.gtr (lk rfl) (lk rfl)) rfl ?_
          refine Ops.u (Dtu.pickF (lk rfl) (lk rfl)) rfl ?_
          refine Ops.u (Dtu.mv (lk rfl)) rfl ?_
          refine Ops.decP 62 rfl (fun c62 => ?_) (fun c62 => ?_)
          · have hf : True := trivial
            rw [if_pos (.inr (.inl (by omega)))] at hr
            refine Ops.gn rfl rfl rfl rfl rfl ?_
            refine Ops.gn rfl rfl rfl rfl rfl ?_
            refine Ops.gn rfl rfl rfl rfl rfl ?_
            refine Ops.gn rfl rfl rfl rfl rfl ?_
            refine Ops.gn rfl rfl rfl rfl rfl ?_
            refine Ops.u (Dtu.pickT (lk rfl) (lk rfl)) rfl ?_
            refine Ops.nil ?_
            refine Then.next ?_
            refine Body.condT (lk rfl) ?_
            refine Body.seq ?_
            refine Body.region ?_
            refine Ops.u (Dtu.build ty30 pl30 (lkp rfl) rfl rfl) rfl ?_
            refine Ops.e (Stp.store 2 Try.sizeOf30 (lk rfl) (lk rfl) rfl rfl rfl rfl rfl rfl rfl ?_)
            refine Ops.u (Dtu.asg (lk rfl)) rfl ?_
            refine Ops.nil ?_
            refine Then.next ?_
            refine Body.ret ?_
            refine Then.ret ?_
            refine Blk.ret ?_
            refine Round.ret ?_
            refine Blk.ret ?_
            refine Then.ret ?_
            rw [readV_not hr.symm (by omega)]
            exact ⟨.inr rfl, _, Loads.agg Try.isAgg30 Try.sizeOf30 (Rds.ow (m := 6) 2 rfl rfl) rfl, _, pk [] rfl, rfl, rfl⟩
          · refine Ops.gu rfl rfl rfl (Dtu.fld fa30_0 (lk rfl)) rfl ?_
            refine Ops.gu rfl rfl rfl (Dtu.fld fa28_2 (lk rfl)) rfl ?_
            refine Ops.gd rfl rfl rfl (Det.ld Try.isAgg26 (lk rfl) (Rd.ow 1 rfl rfl)) rfl ?_
            refine Ops.gu rfl rfl rfl (Dtu.lenS Try.underlying26 (Sl.osl 0 rfl) (lk rfl)) rfl ?_
            refine Ops.gu rfl rfl rfl (Dtu.gtr (lk rfl) (lk rfl)) rfl ?_
            refine Ops.u (Dtu.pickF (lk rfl) (lk rfl)) rfl ?_
            refine Ops.nil ?_
            refine Then.next ?_
            refine Body.condP (lk rfl) (fun c68 => ?_) (fun c68 => ?_)
            · have hf : True := trivial
              rw [if_pos (.inr (.inr (by omega)))] at hr
              refine Body.seq ?_
              refine Body.region ?_
              refine Ops.u (Dtu.build ty30 pl30 (lkp rfl) rfl rfl) rfl ?_
              refine Ops.e (Stp.store 2 Try.sizeOf30 (lk rfl) (lk rfl) rfl rfl rfl rfl rfl rfl rfl ?_)
              refine Ops.u (Dtu.asg (lk rfl)) rfl ?_
              refine Ops.nil ?_
              refine Then.next ?_
              refine Body.ret ?_
              refine Then.ret ?_
              refine Blk.ret ?_
              refine Round.ret ?_
              refine Blk.ret ?_
              refine Then.ret ?_
              rw [readV_not hr.symm (by omega)]
              exact ⟨.inr rfl, _, Loads.agg Try.isAgg30 Try.sizeOf30 (Rds.ow (m := 6) 2 rfl rfl) rfl, _, pk [] rfl, rfl, rfl⟩
            · rw [if_neg (by omega)] at hr
              have hnx := g2 (by omega)
              have hfl := cellR_fl bs hb (getS bs a).2.1
              have g3 := cellR_next bs (getS bs a).2.1
              refine Body.skip ?_
              refine Then.next ?_
              refine Body.seq ?_
              refine Body.region ?_
              refine Ops.u (Dtu.mv (lk rfl)) rfl ?_
              refine Ops.u (Dtu.mv (lk rfl)) rfl ?_
              refine Ops.s (Stp.call rfl Try.call35 (lks rfl) (fun E' le hat => rgetCell_ok E' _ _ _ (Sl.mono (by assumption) le) (by assumption)) ?_) rfl
              rintro _ _ ⟨rfl, rfl⟩
              refine Ops.u (Dtu.mv (lk rfl)) rfl ?_
              refine Ops.u (Dtu.ext (lk rfl) rfl) rfl ?_
              refine Ops.u (Dtu.ext (lk rfl) rfl) rfl ?_
              refine Ops.u (Dtu.ext (lk rfl) rfl) rfl ?_
              refine Ops.s (Stp.alloc ty65 (fun b9 => ?_)) rfl
              refine Ops.e (Stp.store 0 Try.sizeOf65 (lk rfl) (lk rfl) rfl rfl rfl rfl rfl rfl rfl ?_)
              refine Ops.u (Dtu.asg (lk rfl)) rfl ?_
              refine Ops.u (Dtu.asg (lk rfl)) rfl ?_
              refine Ops.nil ?_
              refine Then.next ?_
              refine Body.seq ?_
              refine Body.seq ?_
              refine Body.region ?_
              refine Ops.u (Dtu.mv (lk rfl)) rfl ?_
              refine Ops.u (Dtu.neq (lk rfl) (lk rfl)) rfl ?_
              refine Ops.nil ?_
              refine Then.next ?_
              refine Body.condP (lk rfl) (fun c78 => ?_) (fun c78 => ?_)
              · rw [if_pos (by assumption)] at hr
                refine Body.seq ?_
                refine Body.region ?_
                refine Ops.u (Dtu.build ty30 pl30 (lkp rfl) rfl rfl) rfl ?_
                refine Ops.e (Stp.store 3 Try.sizeOf30 (lk rfl) (lk rfl) rfl rfl rfl rfl rfl rfl rfl ?_)
                refine Ops.u (Dtu.asg (lk rfl)) rfl ?_
                refine Ops.nil ?_
                refine Then.next ?_
                refine Body.ret ?_
                refine Then.ret ?_
                refine Blk.ret ?_
                refine Round.ret ?_
                refine Blk.ret ?_
                refine Then.ret ?_
                rw [readV_not hr.symm (by omega)]
                exact ⟨.inr rfl, _, Loads.agg Try.isAgg30 Try.sizeOf30 (Rds.ow (m := 6) 3 rfl rfl) rfl, _, pk [] rfl, rfl, rfl⟩
              · rw [if_neg (by assumption)] at hr
                obtain ⟨q, hq⟩ := Int.eq_ofNat_of_zero_le g1.1
                rw [hq, Int.toNat_natCast] at hr
                have g4 := g3 (by omega)
                refine Body.skip ?_
                refine Then.next ?_
                refine Body.seq ?_
                refine Body.seq ?_
                refine Body.region ?_
                refine Ops.u (Dtu.asg (lk rfl)) rfl ?_
                refine Ops.nil ?_
                refine Then.next ?_
                refine Body.block ?_
                refine Body.loopF (γ := Nat × Value) rfl (fun g => [(12, .int .u64 g.1)]) (fun g => [own b9 (Cell.renc (cellR bs (getS bs a).2.1).1) 65, osl 65 11 g.2 (cs.length + g.1) ((cs ++ List.replicate g.1 (cellR bs (getS bs a).2.1).1).flatMap Cell.renc), own b4 [.int .i64 bs[0]!, .int .i64 bs[1]!, g.2, .int .i64 bs[2]!, .int .i64 bs[3]!, .bool (decide (bs[4]! = 1))] 30, own b2 [.int .i64 0, .int .i64 0, .slice none 0 0, .int .i64 0, .int .i64 0, .bool false] 30])
                  (fun g => g.1 ≤ q) (fun g => q - g.1) (0, .slice oa om oc) (by simp) ⟨rfl, trivial⟩ (by simp; rfl) ?_
                rintro ⟨i, P⟩ u2 hi
                dsimp only at hi ⊢
                refine Body.pure (Sl.isSl (Sl.osl 1 rfl)) fun hP => ?_
                obtain ⟨pa, pm, pc, rfl⟩ := hP
                refine Body.seq ?_
                refine Body.seq ?_
                refine Body.region ?_
                refine Ops.u (Dtu.mv (lk rfl)) rfl ?_
                refine Ops.u (Dtu.mv (lk rfl)) rfl ?_
                refine Ops.u (Dtu.lss (lk rfl) (lk rfl)) rfl ?_
                refine Ops.nil ?_
                refine Then.next ?_
                refine Body.condP (lk rfl) (fun c82 => ?_) (fun c82 => ?_)
                · refine Body.skip ?_
                  refine Then.next ?_
                  refine Body.seq ?_
                  refine Body.block ?_
                  refine Body.region ?_
                  refine Ops.u (Dtu.fld fa30_0 (lk rfl)) rfl ?_
                  refine Ops.u (Dtu.fld fa28_2 (lk rfl)) rfl ?_
                  refine Ops.d (Det.ld Try.isAgg26 (lk rfl) (Rd.ow 2 rfl rfl)) rfl ?_
                  refine Ops.d (Det.lda Try.isAgg65 Try.sizeOf65 (lk rfl) (Rds.ow (m := 11) 0 rfl rfl) rfl) rfl ?_
                  refine Ops.s (Stp.buildSliceO Try.underlying26 ty65 (by decide) (by decide) (lkp rfl) rfl rfl rfl (by decide) (fun v89 => ?_)) rfl
                  refine Ops.s (Stp.append 2 Try.underlying26 ty65 rfl rfl (lk rfl) (lk rfl) (Sl.osl 0 rfl) (by first | rfl | exact all_map (fun _ => rfl) _ | exact all_flat (fun _ => rfl) _) (by omega) (by omega) (fun v90 => ?_)) rfl
                  refine Ops.u (Dtu.fld fa30_0 (lk rfl)) rfl ?_
                  refine Ops.u (Dtu.fld fa28_2 (lk rfl)) rfl ?_
                  refine Ops.pure (Sl.isSl (Sl.osl 2 rfl)) fun h90 => ?_
                  obtain ⟨z1, z2, z3, rfl⟩ := h90
                  refine Ops.e (Stp.store 3 Try.sizeOf26 (lk rfl) (lk rfl) rfl rfl rfl rfl rfl rfl rfl ?_)
                  refine Ops.nil ?_
                  refine Blk.norm ?_
                  refine Then.next ?_
                  refine Body.region ?_
                  refine Ops.u (Dtu.mv (lk rfl)) rfl ?_
                  refine Ops.u (Dtu.add (lk rfl) (lk rfl) (wu64 (by omega) (by omega))) rfl ?_
                  refine Ops.u (Dtu.asg (lk rfl)) rfl ?_
                  refine Ops.nil ?_
                  refine Round.goK [1, 1, 1, 1] (i + 1, .slice z1 z2 z3) rfl rfl rfl ⟨int_eq (by simp), trivial⟩ rfl ?_ (by dsimp only; omega) (by dsimp only; omega)
                  simp [List.replicate_succ', List.flatMap_append, Cell.renc, rsty, Nat.add_assoc]
                · obtain rfl : i = q := by omega
                  refine Body.exit ?_
                  refine Then.exit ?_
                  refine Round.exit ?_
                  refine Blk.here ?_
                  refine Then.next ?_
                  refine Body.region ?_
                  refine Ops.u (Dtu.mv (lk rfl)) rfl ?_
                  refine Ops.u (Dtu.asg (lk rfl)) rfl ?_
                  refine Ops.nil ?_
                  refine Blk.norm ?_
                  refine Round.goK [1, 1, 1] (k, cs ++ List.replicate i (cellR bs (getS bs a).2.1).1, (cellR bs (getS bs a).2.1).2.1, .slice pa pm pc) rfl rfl rfl ⟨rfl, trivial⟩ rfl ?_ ⟨hr, by dsimp only; omega, by dsimp only; omega, by dsimp only; omega, ?_⟩ (by simp)
                  · simp
                  · simp; omega
      · rw [if_neg c48] at hr
        have hfl : ∀ c ∈ cs, c.Fl := by
          have := readCells_fl bs hb (bs.length + 1) [] 5 (by simp)
          have e : readCells bs (bs.length + 1) [] 5 = (cs, a) := hr.symm
          rw [e] at this
          exact this
        have hcols : ∀ c ∈ cs, c.Cols := by
          have := readCells_cols bs hb (bs.length + 1) [] 5 (by simp)
          have e : readCells bs (bs.length + 1) [] 5 = (cs, a) := hr.symm
          rw [e] at this
          exact this
        obtain rfl : a = bs.length := by omega
        have hW : readW bs = ⟨bs[0]!, bs[1]!, cs, bs[2]!, bs[3]!, decide (bs[4]! = 1)⟩ := by unfold readW; rw [← hr]
        have hR : readV bs = if (View.mk bs[0]! bs[1]! cs bs[2]! bs[3]! (decide (bs[4]! = 1))).ok = true ∧ (View.mk bs[0]! bs[1]! cs bs[2]! bs[3]! (decide (bs[4]! = 1))).bytes = bs then some (View.mk bs[0]! bs[1]! cs bs[2]! bs[3]! (decide (bs[4]! = 1))) else none := by
          unfold readV
          rw [if_neg (by omega), hW, ← hr]
          simp only [true_and]
        refine Body.exit ?_
        refine Then.exit ?_
        refine Round.exit ?_
        refine Blk.here ?_
        refine Then.next ?_
        refine Body.seq ?_
        refine Body.seq ?_
        refine Body.draw mixed ?_
        refine AB.d 0 rfl (by decide +kernel) rfl (Det.lda Try.isAgg30 Try.sizeOf30 (lk rfl) (Rds.ow (m := 6) 1 rfl rfl) rfl) rfl ?_
        refine AB.s 1 rfl (by decide +kernel) (by decide +kernel) (Stp.call rfl Try.call18 (lks rfl) (fun E' le hat => rright_ok E' ⟨bs[0]!, bs[1]!, cs, bs[2]!, bs[3]!, decide (bs[4]! = 1)⟩ (.slice oa om oc) (Sl.at (hat _ (.head _))) hcols) ?_) rfl
        rintro _ _ ⟨rfl, rfl⟩
        cases hk : View.ok ⟨bs[0]!, bs[1]!, cs, bs[2]!, bs[3]!, decide (bs[4]! = 1)⟩ with
        | false =>
          have hV : readV bs = none := by rw [hR, if_neg (by rw [hk]; simp)]
          rw [hV]
          refine AB.u 2 rfl (by decide +kernel) (Dtu.not (lk rfl)) rfl ?_
          refine AB.u 3 rfl (by decide +kernel) (Dtu.mv (lk rfl)) rfl ?_
          refine AB.gn 4 rfl (by decide +kernel) rfl rfl rfl rfl rfl ?_
          refine AB.gn 5 rfl (by decide +kernel) rfl rfl rfl rfl rfl ?_
          refine AB.gn 6 rfl (by decide +kernel) rfl rfl rfl rfl rfl ?_
          refine AB.gn 7 rfl (by decide +kernel) rfl rfl rfl rfl rfl ?_
          refine AB.gn 8 rfl (by decide +kernel) rfl rfl rfl rfl rfl ?_
          refine AB.gn 9 rfl (by decide +kernel) rfl rfl rfl rfl rfl ?_
          refine AB.u 10 rfl (by decide +kernel) (Dtu.pickT (lk rfl) (lk rfl)) rfl ?_
          refine AB.done (by decide +kernel) ?_
          refine Then.next ?_
          refine Body.condT (lk rfl) ?_
          refine Body.seq ?_
          refine Body.region ?_
          refine Ops.u (Dtu.build ty30 pl30 (lkp rfl) rfl rfl) rfl ?_
          refine Ops.e (Stp.store 2 Try.sizeOf30 (lk rfl) (lk rfl) rfl rfl rfl rfl rfl rfl rfl ?_)
          refine Ops.u (Dtu.asg (lk rfl)) rfl ?_
          refine Ops.nil ?_
          refine Then.next ?_
          refine Body.ret ?_
          refine Then.ret ?_
          exact ⟨.inr rfl, _, Loads.agg Try.isAgg30 Try.sizeOf30 (Rds.ow (m := 6) 2 rfl rfl) rfl, _, pk [] rfl, rfl, rfl⟩
        | true =>
          have hbt := View.bytes_byt hk hfl
          refine AB.u 2 rfl (by decide +kernel) (Dtu.not (lk rfl)) rfl ?_
          refine AB.u 3 rfl (by decide +kernel) (Dtu.mv (lk rfl)) rfl ?_
          refine AB.gd 4 rfl (by decide +kernel) rfl rfl rfl rfl (Det.lda Try.isAgg30 Try.sizeOf30 (lk rfl) (Rds.ow (m := 6) 1 rfl rfl) rfl) rfl ?_
          refine AB.gu 7 rfl (by decide +kernel) rfl rfl rfl (Dtu.mv (lk rfl)) rfl ?_
          refine AB.gd 8 rfl (by decide +kernel) rfl rfl rfl rfl (Det.bstr Try.underlying32 Try.underlying5 Try.underlying9 (lk rfl) (Sl.up h)) rfl ?_
          refine AB.gs 5 rfl (by decide +kernel) (by decide +kernel) rfl rfl rfl (Stp.call rfl Try.call31 (lks rfl) (fun E' le hat => rwrite_ok E' ⟨bs[0]!, bs[1]!, cs, bs[2]!, bs[3]!, decide (bs[4]! = 1)⟩ (.slice oa om oc) (Sl.at (hat _ (.head _))) hfl hk) ?_) rfl
          rintro _ _ ⟨s99, rfl, rfl⟩
          refine AB.gd 6 rfl (by decide +kernel) rfl rfl rfl rfl (Det.bstr Try.underlying32 Try.underlying5 Try.underlying9 (lk rfl) (Sl.osl 0 rfl)) rfl ?_
          refine AB.gu 9 rfl (by decide +kernel) rfl rfl rfl (Dtu.neStr (lk rfl) (lk rfl)) rfl ?_
          refine AB.u 10 rfl (by decide +kernel) (Dtu.pickF (lk rfl) (lk rfl)) rfl ?_
          refine AB.done (by decide +kernel) ?_
          refine Then.next ?_
          refine Body.condP (lk rfl) (fun c104 => ?_) (fun c104 => ?_)
          · refine Body.seq ?_
            refine Body.region ?_
            refine Ops.u (Dtu.build ty30 pl30 (lkp rfl) rfl rfl) rfl ?_
            refine Ops.e (Stp.store 3 Try.sizeOf30 (lk rfl) (lk rfl) rfl rfl rfl rfl rfl rfl rfl ?_)
            refine Ops.u (Dtu.asg (lk rfl)) rfl ?_
            refine Ops.nil ?_
            refine Then.next ?_
            refine Body.ret ?_
            refine Then.ret ?_
            have hV : readV bs = none := by rw [hR, if_neg (fun h => c104 (by rw [h.2]))]
            rw [hV]
            exact ⟨.inr rfl, _, Loads.agg Try.isAgg30 Try.sizeOf30 (Rds.ow (m := 6) 3 rfl rfl) rfl, _, pk [] rfl, rfl, rfl⟩
          · refine Body.skip ?_
            refine Then.next ?_
            refine Body.seq ?_
            refine Body.region ?_
            refine Ops.d (Det.lda Try.isAgg30 Try.sizeOf30 (lk rfl) (Rds.ow (m := 6) 2 rfl rfl) rfl) rfl ?_
            refine Ops.e (Stp.store 3 Try.sizeOf30 (lk rfl) (lk rfl) rfl rfl rfl rfl rfl rfl rfl ?_)
            refine Ops.u (Dtu.asg (lk rfl)) rfl ?_
            refine Ops.nil ?_
            refine Then.next ?_
            refine Body.ret ?_
            have hV : readV bs = some ⟨bs[0]!, bs[1]!, cs, bs[2]!, bs[3]!, decide (bs[4]! = 1)⟩ := by rw [hR, if_pos ⟨hk, (strOfNums_inj hbt hb).1 (Decidable.of_not_not c104)⟩]
            rw [hV]
            exact ⟨.inr rfl, _, Loads.agg Try.isAgg30 Try.sizeOf30 (Rds.ow (m := 6) 3 rfl rfl) rfl, _, pk [1] rfl, .slice oa om oc, rfl, rfl⟩
end Go.Proofs.Ytijjjdljdjnbaaa
end
section
/- ViewBytes: what it computes. -/
namespace Go.Proofs.Ytijjjdljdjnbaaa
set_option maxRecDepth 100000
set_option linter.unusedVariables false
set_option linter.unusedSimpArgs false
open Go.Sx

def rdK (bs : List Int) : Bool := (readV bs).isSome
theorem rread_any (E : Env) (b : Value) (bs : List Int) (h : Sl E [] 1 b bs.length (bs.map (.int .u8))) (hb : Byt bs) : Does Try.prog 30 #[b] E [] fun r H' => ∃ s, r = .tuple #[(rdV bs).val s, .bool (rdK bs)] ∧ H' = [osl 65 11 s (rdV bs).cells.length ((rdV bs).cells.flatMap Cell.renc)] := by
  have h1 := rread_ok E b bs h hb
  cases hr : readV bs with
  | some v =>
    have e1 : rdV bs = v := by simp [rdV, hr]
    have e2 : rdK bs = true := by simp [rdK, hr]
    rw [e1, e2]
    rw [hr] at h1
    exact h1
  | none =>
    have e1 : rdV bs = View.none := by simp [rdV, hr]
    have e2 : rdK bs = false := by simp [rdK, hr]
    rw [e1, e2]
    rw [hr] at h1
    intro w s0
    refine (h1 w s0).mono ?_
    rintro e w' ⟨r, H', he, ⟨rfl, rfl⟩, s'⟩
    exact ⟨_, _, he, ⟨_, rfl, rfl⟩, osl_nil s'⟩
theorem rdV_fl (bs : List Int) (hb : Byt bs) : ∀ c ∈ (rdV bs).cells, c.Fl := by
  unfold rdV readV
  split
  · intro c hc; simp [View.none] at hc
  · split
    · exact readCells_fl bs hb (bs.length + 1) [] 5 (by simp)
    · intro c hc; simp [View.none] at hc
theorem rdV_len (bs : List Int) : (rdV bs).cells.length ≤ 480 := by
  cases hr : readV bs with
  | none => simp [rdV, hr, View.none]
  | some q =>
    obtain ⟨k1, k2⟩ := readV_some hr
    have h := (View.ok_fits k1).1
    have := mul_bound h.1
    have := h.2.2.2.2.2
    simp only [rdV, hr, Option.getD_some]
    omega
theorem rdE_K (bs : List Int) : decide (rdE bs = 0) = rdK bs := by
  cases hr : readV bs <;> simp [rdE, rdK, hr]
set_option maxHeartbeats 3200000 in
theorem bytes_ok (E : Env) (v o : View) (s t b : Value) (bs : List Int) (hv : v.has E [] s) (ho : o.has E [] t) (hb : Sl E [] 1 b bs.length (bs.map (.int .u8))) (hbt : Byt bs) (fv : ∀ c ∈ v.cells, c.Fl) (fo : ∀ c ∈ o.cells, c.Fl) (gv : ∀ c ∈ v.cells, c.Cols) :
    Does Try.prog 7 #[v.val s, o.val t, b] E [] fun r H' => r = .bool true ∧ H' = [] := by
  have bv := wB_byt fv
  have rf := rdV_fl bs hbt
  have rn := rdV_len bs
  have rk := rdE_K bs
  obtain ⟨vr, vc, cells, vo, vl, vv⟩ := v
  obtain ⟨wr, wc, dells, wo, wl, wv⟩ := o
  unfold View.has at hv ho
  dsimp only at hv ho fv fo gv
  refine Does.pure hv.isSl fun hsl => ?_
  obtain ⟨sa, sm, sc, rfl⟩ := hsl
  refine Does.pure ho.isSl fun hsl => ?_
  obtain ⟨ta, tm, tc, rfl⟩ := hsl
  refine Does.go (args := [View.val ⟨vr, vc, cells, vo, vl, vv⟩ (.slice sa sm sc), View.val ⟨wr, wc, dells, wo, wl, wv⟩ (.slice ta tm tc), b]) _ _ Try.func7 rfl Try.ntmps7 rfl rfl ?_
  refine Body.seq ?_
  refine Body.region ?_
  refine Ops.s (Stp.box (lk rfl) rfl (fun b3 => ?_)) rfl
  refine Ops.s (Stp.box (lk rfl) rfl (fun b4 => ?_)) rfl
  refine Ops.u (Dtu.asg (lk rfl)) rfl ?_
  refine Ops.nil ?_
  refine Then.next ?_
  refine Body.seq ?_
  refine Body.seq ?_
  refine Body.region ?_
  refine Ops.u (Dtu.fld fa24_2 (lk rfl)) rfl ?_
  refine Ops.d (Det.ld Try.isAgg22 (lk rfl) (Rd.ow 1 rfl rfl)) rfl ?_
  refine Ops.u (Dtu.lenS Try.underlying22 (Sl.up hv) (lk rfl)) rfl ?_
  refine Ops.u (Dtu.gtr (lk rfl) (lk rfl)) rfl ?_
  refine Ops.u (Dtu.mv (lk rfl)) rfl ?_
  refine Ops.decP 19 rfl (fun c19 => ?_) (fun c19 => ?_)
  · refine Ops.gn rfl rfl rfl rfl rfl ?_
    refine Ops.gn rfl rfl rfl rfl rfl ?_
    refine Ops.gn rfl rfl rfl rfl rfl ?_
    refine Ops.gn rfl rfl rfl rfl rfl ?_
    refine Ops.u (Dtu.pickT (lk rfl) (lk rfl)) rfl ?_
    refine Ops.u (Dtu.mv (lk rfl)) rfl ?_
    refine Ops.gn rfl rfl rfl rfl rfl ?_
    refine Ops.gn rfl rfl rfl rfl rfl ?_
    refine Ops.gn rfl rfl rfl rfl rfl ?_
    refine Ops.u (Dtu.pickT (lk rfl) (lk rfl)) rfl ?_
    refine Ops.nil ?_
    refine Then.next ?_
    refine Body.condT (lk rfl) ?_
    refine Body.seq ?_
    refine Body.region ?_
    refine Ops.s (Stp.call rfl Try.call27 (lks rfl) (fun E' le hat => alive20_ok E') ?_) rfl
    rintro _ _ ⟨rfl, rfl⟩
    refine Ops.u (Dtu.asg (lk rfl)) rfl ?_
    refine Ops.nil ?_
    refine Then.next ?_
    refine Body.ret ?_
    refine Then.ret ?_
    exact ⟨.inr rfl, _, pk [] rfl, rfl, rfl⟩
  · refine Ops.gu rfl rfl rfl (Dtu.fld fa24_2 (lk rfl)) rfl ?_
    refine Ops.gd rfl rfl rfl (Det.ld Try.isAgg22 (lk rfl) (Rd.ow 0 rfl rfl)) rfl ?_
    refine Ops.gu rfl rfl rfl (Dtu.lenS Try.underlying22 (Sl.up ho) (lk rfl)) rfl ?_
    refine Ops.gu rfl rfl rfl (Dtu.gtr (lk rfl) (lk rfl)) rfl ?_
    refine Ops.u (Dtu.pickF (lk rfl) (lk rfl)) rfl ?_
    refine Ops.u (Dtu.mv (lk rfl)) rfl ?_
    refine Ops.decP 25 rfl (fun c25 => ?_) (fun c25 => ?_)
    · refine Ops.gn rfl rfl rfl rfl rfl ?_
      refine Ops.gn rfl rfl rfl rfl rfl ?_
      refine Ops.gn rfl rfl rfl rfl rfl ?_
      refine Ops.u (Dtu.pickT (lk rfl) (lk rfl)) rfl ?_
      refine Ops.nil ?_
      refine Then.next ?_
      refine Body.condT (lk rfl) ?_
      refine Body.seq ?_
      refine Body.region ?_
      refine Ops.s (Stp.call rfl Try.call27 (lks rfl) (fun E' le hat => alive20_ok E') ?_) rfl
      rintro _ _ ⟨rfl, rfl⟩
      refine Ops.u (Dtu.asg (lk rfl)) rfl ?_
      refine Ops.nil ?_
      refine Then.next ?_
      refine Body.ret ?_
      refine Then.ret ?_
      exact ⟨.inr rfl, _, pk [] rfl, rfl, rfl⟩
    · refine Ops.gu rfl rfl rfl (Dtu.mv (lk rfl)) rfl ?_
      refine Ops.gu rfl rfl rfl (Dtu.lenS Try.underlying32 (Sl.up hb) (lk rfl)) rfl ?_
      refine Ops.gu rfl rfl rfl (Dtu.gtr (lk rfl) (lk rfl)) rfl ?_
      refine Ops.u (Dtu.pickF (lk rfl) (lk rfl)) rfl ?_
      refine Ops.nil ?_
      refine Then.next ?_
      refine Body.condP (lk rfl) (fun c29 => ?_) (fun c29 => ?_)
      · refine Body.seq ?_
        refine Body.region ?_
        refine Ops.s (Stp.call rfl Try.call27 (lks rfl) (fun E' le hat => alive20_ok E') ?_) rfl
        rintro _ _ ⟨rfl, rfl⟩
        refine Ops.u (Dtu.asg (lk rfl)) rfl ?_
        refine Ops.nil ?_
        refine Then.next ?_
        refine Body.ret ?_
        refine Then.ret ?_
        exact ⟨.inr rfl, _, pk [] rfl, rfl, rfl⟩
      · refine Body.skip ?_
        refine Then.next ?_
        refine Body.seqJ (γ := (Nat × Nat) × (Option Addr × Nat × Nat) × (Option Addr × Nat × Nat)) rfl (fun g => [(7, .pointer (some ⟨g.1.1, 0, none⟩)), (8, .pointer (some ⟨g.1.2, 0, none⟩))])
          (fun g => [own g.1.1 [.int .i64 vr, .int .i64 vc, .slice g.2.1.1 g.2.1.2.1 g.2.1.2.2, .int .i64 vo, .int .i64 vl, .bool vv] 30, own g.1.2 [.int .i64 wr, .int .i64 wc, .slice g.2.2.1 g.2.2.2.1 g.2.2.2.2, .int .i64 wo, .int .i64 wl, .bool wv] 30,
            osl 65 11 (.slice g.2.1.1 g.2.1.2.1 g.2.1.2.2) cells.length (cells.flatMap Cell.renc), osl 65 11 (.slice g.2.2.1 g.2.2.2.1 g.2.2.2.2) dells.length (dells.flatMap Cell.renc),
            own b4 [.int .i64 wr, .int .i64 wc, .slice ta tm tc, .int .i64 wo, .int .i64 wl, .bool wv] 24, own b3 [.int .i64 vr, .int .i64 vc, .slice sa sm sc, .int .i64 vo, .int .i64 vl, .bool vv] 24]) (fun _ => True) ?_ ?_
        · refine Body.draw mixed ?_
          refine AB.d 0 rfl (by decide +kernel) rfl (Det.lda Try.isAgg24 Try.sizeOf24 (lk rfl) (Rds.ow (m := 6) 1 rfl rfl) rfl) rfl ?_
          refine AB.d 2 rfl (by decide +kernel) rfl (Det.lda Try.isAgg24 Try.sizeOf24 (lk rfl) (Rds.ow (m := 6) 0 rfl rfl) rfl) rfl ?_
          refine AB.more [1, 4, 5] (by decide +kernel) rfl ⟨?_, ?_, ?_, trivial⟩
          · refine ABI.s rfl (by decide +kernel) (Stp.call rfl Try.call16 (lks rfl) (fun E' le hat => as20_ok E' ⟨_, _, _, _, _, _⟩ _ (Sl.mono (by assumption) le) (by assumption) (by first | assumption | (dsimp only; omega))) ?_) rfl
            rintro _ _ ⟨xa32, xm32, xc32, rfl, rfl⟩
            refine AB.more [3, 4, 5] (by decide +kernel) rfl ⟨?_, ?_, ?_, trivial⟩
            · refine ABI.s rfl (by decide +kernel) (Stp.call rfl Try.call16 (lks rfl) (fun E' le hat => as20_ok E' ⟨_, _, _, _, _, _⟩ _ (Sl.mono (by assumption) le) (by assumption) (by first | assumption | (dsimp only; omega))) ?_) rfl
              rintro _ _ ⟨xa34, xm34, xc34, rfl, rfl⟩
              refine AB.more [4, 5] (by decide +kernel) rfl ⟨?_, ?_, trivial⟩
              · refine ABI.s rfl (by decide +kernel) (Stp.alloc ty30 (fun b7 => ?_)) rfl
                refine AB.s 5 rfl (by decide +kernel) (by decide +kernel) (Stp.alloc ty30 (fun b8 => ?_)) rfl
                refine AB.e 6 rfl (by decide +kernel) (by decide +kernel) (Stp.store 1 Try.sizeOf30 (lk rfl) (lk rfl) rfl rfl rfl rfl rfl rfl rfl ?_)
                refine AB.e 7 rfl (by decide +kernel) (by decide +kernel) (Stp.store 0 Try.sizeOf30 (lk rfl) (lk rfl) rfl rfl rfl rfl rfl rfl rfl ?_)
                refine AB.done (by decide +kernel) ?_
                (first | exact Joint.goK [3, 2, 1, 0, 0, 0] ((b7, b8), (xa32, xm32, xc32), (xa34, xm34, xc34)) rfl rfl rfl ⟨rfl, rfl, trivial⟩ rfl rfl trivial | exact Joint.goK [3, 1, 1, 0, 0, 0] ((b7, b8), (xa32, xm32, xc32), (xa34, xm34, xc34)) rfl rfl rfl ⟨rfl, rfl, trivial⟩ rfl rfl trivial | exact Joint.goK [3, 0, 1, 0, 0, 0] ((b7, b8), (xa32, xm32, xc32), (xa34, xm34, xc34)) rfl rfl rfl ⟨rfl, rfl, trivial⟩ rfl rfl trivial | exact Joint.goK [2, 2, 1, 0, 0, 0] ((b7, b8), (xa32, xm32, xc32), (xa34, xm34, xc34)) rfl rfl rfl ⟨rfl, rfl, trivial⟩ rfl rfl trivial | exact Joint.goK [1, 2, 1, 0, 0, 0] ((b7, b8), (xa32, xm32, xc32), (xa34, xm34, xc34)) rfl rfl rfl ⟨rfl, rfl, trivial⟩ rfl rfl trivial | exact Joint.goK [0, 2, 1, 0, 0, 0] ((b7, b8), (xa32, xm32, xc32), (xa34, xm34, xc34)) rfl rfl rfl ⟨rfl, rfl, trivial⟩ rfl rfl trivial | exact Joint.goK [2, 1, 1, 0, 0, 0] ((b7, b8), (xa32, xm32, xc32), (xa34, xm34, xc34)) rfl rfl rfl ⟨rfl, rfl, trivial⟩ rfl rfl trivial | exact Joint.goK [2, 0, 1, 0, 0, 0] ((b7, b8), (xa32, xm32, xc32), (xa34, xm34, xc34)) rfl rfl rfl ⟨rfl, rfl, trivial⟩ rfl rfl trivial | exact Joint.goK [1, 1, 1, 0, 0, 0] ((b7, b8), (xa32, xm32, xc32), (xa34, xm34, xc34)) rfl rfl rfl ⟨rfl, rfl, trivial⟩ rfl rfl trivial | exact Joint.goK [0, 1, 1, 0, 0, 0] ((b7, b8), (xa32, xm32, xc32), (xa34, xm34, xc34)) rfl rfl rfl ⟨rfl, rfl, trivial⟩ rfl rfl trivial | exact Joint.goK [1, 0, 1, 0, 0, 0] ((b7, b8), (xa32, xm32, xc32), (xa34, xm34, xc34)) rfl rfl rfl ⟨rfl, rfl, trivial⟩ rfl rfl trivial | exact Joint.goK [0, 0, 1, 0, 0, 0] ((b7, b8), (xa32, xm32, xc32), (xa34, xm34, xc34)) rfl rfl rfl ⟨rfl, rfl, trivial⟩ rfl rfl trivial)
              · refine ABI.s rfl (by decide +kernel) (Stp.alloc ty30 (fun b8 => ?_)) rfl
                refine AB.s 4 rfl (by decide +kernel) (by decide +kernel) (Stp.alloc ty30 (fun b7 => ?_)) rfl
                refine AB.e 6 rfl (by decide +kernel) (by decide +kernel) (Stp.store 0 Try.sizeOf30 (lk rfl) (lk rfl) rfl rfl rfl rfl rfl rfl rfl ?_)
                refine AB.e 7 rfl (by decide +kernel) (by decide +kernel) (Stp.store 1 Try.sizeOf30 (lk rfl) (lk rfl) rfl rfl rfl rfl rfl rfl rfl ?_)
                refine AB.done (by decide +kernel) ?_
                (first | exact Joint.goK [3, 2, 1, 0, 0, 0] ((b7, b8), (xa32, xm32, xc32), (xa34, xm34, xc34)) rfl rfl rfl ⟨rfl, rfl, trivial⟩ rfl rfl trivial | exact Joint.goK [3, 1, 1, 0, 0, 0] ((b7, b8), (xa32, xm32, xc32), (xa34, xm34, xc34)) rfl rfl rfl ⟨rfl, rfl, trivial⟩ rfl rfl trivial | exact Joint.goK [3, 0, 1, 0, 0, 0] ((b7, b8), (xa32, xm32, xc32), (xa34, xm34, xc34)) rfl rfl rfl ⟨rfl, rfl, trivial⟩ rfl rfl trivial | exact Joint.goK [2, 2, 1, 0, 0, 0] ((b7, b8), (xa32, xm32, xc32), (xa34, xm34, xc34)) rfl rfl rfl ⟨rfl, rfl, trivial⟩ rfl rfl trivial | exact Joint.goK [1, 2, 1, 0, 0, 0] ((b7, b8), (xa32, xm32, xc32), (xa34, xm34, xc34)) rfl rfl rfl ⟨rfl, rfl, trivial⟩ rfl rfl trivial | exact Joint.goK [0, 2, 1, 0, 0, 0] ((b7, b8), (xa32, xm32, xc32), (xa34, xm34, xc34)) rfl rfl rfl ⟨rfl, rfl, trivial⟩ rfl rfl trivial | exact Joint.goK [2, 1, 1, 0, 0, 0] ((b7, b8), (xa32, xm32, xc32), (xa34, xm34, xc34)) rfl rfl rfl ⟨rfl, rfl, trivial⟩ rfl rfl trivial | exact Joint.goK [2, 0, 1, 0, 0, 0] ((b7, b8), (xa32, xm32, xc32), (xa34, xm34, xc34)) rfl rfl rfl ⟨rfl, rfl, trivial⟩ rfl rfl trivial | exact Joint.goK [1, 1, 1, 0, 0, 0] ((b7, b8), (xa32, xm32, xc32), (xa34, xm34, xc34)) rfl rfl rfl ⟨rfl, rfl, trivial⟩ rfl rfl trivial | exact Joint.goK [0, 1, 1, 0, 0, 0] ((b7, b8), (xa32, xm32, xc32), (xa34, xm34, xc34)) rfl rfl rfl ⟨rfl, rfl, trivial⟩ rfl rfl trivial | exact Joint.goK [1, 0, 1, 0, 0, 0] ((b7, b8), (xa32, xm32, xc32), (xa34, xm34, xc34)) rfl rfl rfl ⟨rfl, rfl, trivial⟩ rfl rfl trivial | exact Joint.goK [0, 0, 1, 0, 0, 0] ((b7, b8), (xa32, xm32, xc32), (xa34, xm34, xc34)) rfl rfl rfl ⟨rfl, rfl, trivial⟩ rfl rfl trivial)
            · refine ABI.s rfl (by decide +kernel) (Stp.alloc ty30 (fun b7 => ?_)) rfl
              refine AB.more [3, 5] (by decide +kernel) rfl ⟨?_, ?_, trivial⟩
              · refine ABI.s rfl (by decide +kernel) (Stp.call rfl Try.call16 (lks rfl) (fun E' le hat => as20_ok E' ⟨_, _, _, _, _, _⟩ _ (Sl.mono (by assumption) le) (by assumption) (by first | assumption | (dsimp only; omega))) ?_) rfl
                rintro _ _ ⟨xa34, xm34, xc34, rfl, rfl⟩
                refine AB.s 5 rfl (by decide +kernel) (by decide +kernel) (Stp.alloc ty30 (fun b8 => ?_)) rfl
                refine AB.e 6 rfl (by decide +kernel) (by decide +kernel) (Stp.store 2 Try.sizeOf30 (lk rfl) (lk rfl) rfl rfl rfl rfl rfl rfl rfl ?_)
                refine AB.e 7 rfl (by decide +kernel) (by decide +kernel) (Stp.store 0 Try.sizeOf30 (lk rfl) (lk rfl) rfl rfl rfl rfl rfl rfl rfl ?_)
                refine AB.done (by decide +kernel) ?_
                (first | exact Joint.goK [3, 2, 1, 0, 0, 0] ((b7, b8), (xa32, xm32, xc32), (xa34, xm34, xc34)) rfl rfl rfl ⟨rfl, rfl, trivial⟩ rfl rfl trivial | exact Joint.goK [3, 1, 1, 0, 0, 0] ((b7, b8), (xa32, xm32, xc32), (xa34, xm34, xc34)) rfl rfl rfl ⟨rfl, rfl, trivial⟩ rfl rfl trivial | exact Joint.goK [3, 0, 1, 0, 0, 0] ((b7, b8), (xa32, xm32, xc32), (xa34, xm34, xc34)) rfl rfl rfl ⟨rfl, rfl, trivial⟩ rfl rfl trivial | exact Joint.goK [2, 2, 1, 0, 0, 0] ((b7, b8), (xa32, xm32, xc32), (xa34, xm34, xc34)) rfl rfl rfl ⟨rfl, rfl, trivial⟩ rfl rfl trivial | exact Joint.goK [1, 2, 1, 0, 0, 0] ((b7, b8), (xa32, xm32, xc32), (xa34, xm34, xc34)) rfl rfl rfl ⟨rfl, rfl, trivial⟩ rfl rfl trivial | exact Joint.goK [0, 2, 1, 0, 0, 0] ((b7, b8), (xa32, xm32, xc32), (xa34, xm34, xc34)) rfl rfl rfl ⟨rfl, rfl, trivial⟩ rfl rfl trivial | exact Joint.goK [2, 1, 1, 0, 0, 0] ((b7, b8), (xa32, xm32, xc32), (xa34, xm34, xc34)) rfl rfl rfl ⟨rfl, rfl, trivial⟩ rfl rfl trivial | exact Joint.goK [2, 0, 1, 0, 0, 0] ((b7, b8), (xa32, xm32, xc32), (xa34, xm34, xc34)) rfl rfl rfl ⟨rfl, rfl, trivial⟩ rfl rfl trivial | exact Joint.goK [1, 1, 1, 0, 0, 0] ((b7, b8), (xa32, xm32, xc32), (xa34, xm34, xc34)) rfl rfl rfl ⟨rfl, rfl, trivial⟩ rfl rfl trivial | exact Joint.goK [0, 1, 1, 0, 0, 0] ((b7, b8), (xa32, xm32, xc32), (xa34, xm34, xc34)) rfl rfl rfl ⟨rfl, rfl, trivial⟩ rfl rfl trivial | exact Joint.goK [1, 0, 1, 0, 0, 0] ((b7, b8), (xa32, xm32, xc32), (xa34, xm34, xc34)) rfl rfl rfl ⟨rfl, rfl, trivial⟩ rfl rfl trivial | exact Joint.goK [0, 0, 1, 0, 0, 0] ((b7, b8), (xa32, xm32, xc32), (xa34, xm34, xc34)) rfl rfl rfl ⟨rfl, rfl, trivial⟩ rfl rfl trivial)
              · refine ABI.s rfl (by decide +kernel) (Stp.alloc ty30 (fun b8 => ?_)) rfl
                refine AB.s 3 rfl (by decide +kernel) (by decide +kernel) (Stp.call rfl Try.call16 (lks rfl) (fun E' le hat => as20_ok E' ⟨_, _, _, _, _, _⟩ _ (Sl.mono (by assumption) le) (by assumption) (by first | assumption | (dsimp only; omega))) ?_) rfl
                rintro _ _ ⟨xa34, xm34, xc34, rfl, rfl⟩
                refine AB.e 6 rfl (by decide +kernel) (by decide +kernel) (Stp.store 2 Try.sizeOf30 (lk rfl) (lk rfl) rfl rfl rfl rfl rfl rfl rfl ?_)
                refine AB.e 7 rfl (by decide +kernel) (by decide +kernel) (Stp.store 1 Try.sizeOf30 (lk rfl) (lk rfl) rfl rfl rfl rfl rfl rfl rfl ?_)
                refine AB.done (by decide +kernel) ?_
                (first | exact Joint.goK [3, 2, 1, 0, 0, 0] ((b7, b8), (xa32, xm32, xc32), (xa34, xm34, xc34)) rfl rfl rfl ⟨rfl, rfl, trivial⟩ rfl rfl trivial | exact Joint.goK [3, 1, 1, 0, 0, 0] ((b7, b8), (xa32, xm32, xc32), (xa34, xm34, xc34)) rfl rfl rfl ⟨rfl, rfl, trivial⟩ rfl rfl trivial | exact Joint.goK [3, 0, 1, 0, 0, 0] ((b7, b8), (xa32, xm32, xc32), (xa34, xm34, xc34)) rfl rfl rfl ⟨rfl, rfl, trivial⟩ rfl rfl trivial | exact Joint.goK [2, 2, 1, 0, 0, 0] ((b7, b8), (xa32, xm32, xc32), (xa34, xm34, xc34)) rfl rfl rfl ⟨rfl, rfl, trivial⟩ rfl rfl trivial | exact Joint.goK [1, 2, 1, 0, 0, 0] ((b7, b8), (xa32, xm32, xc32), (xa34, xm34, xc34)) rfl rfl rfl ⟨rfl, rfl, trivial⟩ rfl rfl trivial | exact Joint.goK [0, 2, 1, 0, 0, 0] ((b7, b8), (xa32, xm32, xc32), (xa34, xm34, xc34)) rfl rfl rfl ⟨rfl, rfl, trivial⟩ rfl rfl trivial | exact Joint.goK [2, 1, 1, 0, 0, 0] ((b7, b8), (xa32, xm32, xc32), (xa34, xm34, xc34)) rfl rfl rfl ⟨rfl, rfl, trivial⟩ rfl rfl trivial | exact Joint.goK [2, 0, 1, 0, 0, 0] ((b7, b8), (xa32, xm32, xc32), (xa34, xm34, xc34)) rfl rfl rfl ⟨rfl, rfl, trivial⟩ rfl rfl trivial | exact Joint.goK [1, 1, 1, 0, 0, 0] ((b7, b8), (xa32, xm32, xc32), (xa34, xm34, xc34)) rfl rfl rfl ⟨rfl, rfl, trivial⟩ rfl rfl trivial | exact Joint.goK [0, 1, 1, 0, 0, 0] ((b7, b8), (xa32, xm32, xc32), (xa34, xm34, xc34)) rfl rfl rfl ⟨rfl, rfl, trivial⟩ rfl rfl trivial | exact Joint.goK [1, 0, 1, 0, 0, 0] ((b7, b8), (xa32, xm32, xc32), (xa34, xm34, xc34)) rfl rfl rfl ⟨rfl, rfl, trivial⟩ rfl rfl trivial | exact Joint.goK [0, 0, 1, 0, 0, 0] ((b7, b8), (xa32, xm32, xc32), (xa34, xm34, xc34)) rfl rfl rfl ⟨rfl, rfl, trivial⟩ rfl rfl trivial)
            · refine ABI.s rfl (by decide +kernel) (Stp.alloc ty30 (fun b8 => ?_)) rfl
              refine AB.more [3, 4] (by decide +kernel) rfl ⟨?_, ?_, trivial⟩
              · refine ABI.s rfl (by decide +kernel) (Stp.call rfl Try.call16 (lks rfl) (fun E' le hat => as20_ok E' ⟨_, _, _, _, _, _⟩ _ (Sl.mono (by assumption) le) (by assumption) (by first | assumption | (dsimp only; omega))) ?_) rfl
                rintro _ _ ⟨xa34, xm34, xc34, rfl, rfl⟩
                refine AB.s 4 rfl (by decide +kernel) (by decide +kernel) (Stp.alloc ty30 (fun b7 => ?_)) rfl
                refine AB.e 6 rfl (by decide +kernel) (by decide +kernel) (Stp.store 0 Try.sizeOf30 (lk rfl) (lk rfl) rfl rfl rfl rfl rfl rfl rfl ?_)
                refine AB.e 7 rfl (by decide +kernel) (by decide +kernel) (Stp.store 2 Try.sizeOf30 (lk rfl) (lk rfl) rfl rfl rfl rfl rfl rfl rfl ?_)
                refine AB.done (by decide +kernel) ?_
                (first | exact Joint.goK [3, 2, 1, 0, 0, 0] ((b7, b8), (xa32, xm32, xc32), (xa34, xm34, xc34)) rfl rfl rfl ⟨rfl, rfl, trivial⟩ rfl rfl trivial | exact Joint.goK [3, 1, 1, 0, 0, 0] ((b7, b8), (xa32, xm32, xc32), (xa34, xm34, xc34)) rfl rfl rfl ⟨rfl, rfl, trivial⟩ rfl rfl trivial | exact Joint.goK [3, 0, 1, 0, 0, 0] ((b7, b8), (xa32, xm32, xc32), (xa34, xm34, xc34)) rfl rfl rfl ⟨rfl, rfl, trivial⟩ rfl rfl trivial | exact Joint.goK [2, 2, 1, 0, 0, 0] ((b7, b8), (xa32, xm32, xc32), (xa34, xm34, xc34)) rfl rfl rfl ⟨rfl, rfl, trivial⟩ rfl rfl trivial | exact Joint.goK [1, 2, 1, 0, 0, 0] ((b7, b8), (xa32, xm32, xc32), (xa34, xm34, xc34)) rfl rfl rfl ⟨rfl, rfl, trivial⟩ rfl rfl trivial | exact Joint.goK [0, 2, 1, 0, 0, 0] ((b7, b8), (xa32, xm32, xc32), (xa34, xm34, xc34)) rfl rfl rfl ⟨rfl, rfl, trivial⟩ rfl rfl trivial | exact Joint.goK [2, 1, 1, 0, 0, 0] ((b7, b8), (xa32, xm32, xc32), (xa34, xm34, xc34)) rfl rfl rfl ⟨rfl, rfl, trivial⟩ rfl rfl trivial | exact Joint.goK [2, 0, 1, 0, 0, 0] ((b7, b8), (xa32, xm32, xc32), (xa34, xm34, xc34)) rfl rfl rfl ⟨rfl, rfl, trivial⟩ rfl rfl trivial | exact Joint.goK [1, 1, 1, 0, 0, 0] ((b7, b8), (xa32, xm32, xc32), (xa34, xm34, xc34)) rfl rfl rfl ⟨rfl, rfl, trivial⟩ rfl rfl trivial | exact Joint.goK [0, 1, 1, 0, 0, 0] ((b7, b8), (xa32, xm32, xc32), (xa34, xm34, xc34)) rfl rfl rfl ⟨rfl, rfl, trivial⟩ rfl rfl trivial | exact Joint.goK [1, 0, 1, 0, 0, 0] ((b7, b8), (xa32, xm32, xc32), (xa34, xm34, xc34)) rfl rfl rfl ⟨rfl, rfl, trivial⟩ rfl rfl trivial | exact Joint.goK [0, 0, 1, 0, 0, 0] ((b7, b8), (xa32, xm32, xc32), (xa34, xm34, xc34)) rfl rfl rfl ⟨rfl, rfl, trivial⟩ rfl rfl trivial)
              · refine ABI.s rfl (by decide +kernel) (Stp.alloc ty30 (fun b7 => ?_)) rfl
                refine AB.s 3 rfl (by decide +kernel) (by decide +kernel) (Stp.call rfl Try.call16 (lks rfl) (fun E' le hat => as20_ok E' ⟨_, _, _, _, _, _⟩ _ (Sl.mono (by assumption) le) (by assumption) (by first | assumption | (dsimp only; omega))) ?_) rfl
                rintro _ _ ⟨xa34, xm34, xc34, rfl, rfl⟩
                refine AB.e 6 rfl (by decide +kernel) (by decide +kernel) (Stp.store 1 Try.sizeOf30 (lk rfl) (lk rfl) rfl rfl rfl rfl rfl rfl rfl ?_)
                refine AB.e 7 rfl (by decide +kernel) (by decide +kernel) (Stp.store 2 Try.sizeOf30 (lk rfl) (lk rfl) rfl rfl rfl rfl rfl rfl rfl ?_)
                refine AB.done (by decide +kernel) ?_
                (first | exact Joint.goK [3, 2, 1, 0, 0, 0] ((b7, b8), (xa32, xm32, xc32), (xa34, xm34, xc34)) rfl rfl rfl ⟨rfl, rfl, trivial⟩ rfl rfl trivial | exact Joint.goK [3, 1, 1, 0, 0, 0] ((b7, b8), (xa32, xm32, xc32), (xa34, xm34, xc34)) rfl rfl rfl ⟨rfl, rfl, trivial⟩ rfl rfl trivial | exact Joint.goK [3, 0, 1, 0, 0, 0] ((b7, b8), (xa32, xm32, xc32), (xa34, xm34, xc34)) rfl rfl rfl ⟨rfl, rfl, trivial⟩ rfl rfl trivial | exact Joint.goK [2, 2, 1, 0, 0, 0] ((b7, b8), (xa32, xm32, xc32), (xa34, xm34, xc34)) rfl rfl rfl ⟨rfl, rfl, trivial⟩ rfl rfl trivial | exact Joint.goK [1, 2, 1, 0, 0, 0] ((b7, b8), (xa32, xm32, xc32), (xa34, xm34, xc34)) rfl rfl rfl ⟨rfl, rfl, trivial⟩ rfl rfl trivial | exact Joint.goK [0, 2, 1, 0, 0, 0] ((b7, b8), (xa32, xm32, xc32), (xa34, xm34, xc34)) rfl rfl rfl ⟨rfl, rfl, trivial⟩ rfl rfl trivial | exact Joint.goK [2, 1, 1, 0, 0, 0] ((b7, b8), (xa32, xm32, xc32), (xa34, xm34, xc34)) rfl rfl rfl ⟨rfl, rfl, trivial⟩ rfl rfl trivial | exact Joint.goK [2, 0, 1, 0, 0, 0] ((b7, b8), (xa32, xm32, xc32), (xa34, xm34, xc34)) rfl rfl rfl ⟨rfl, rfl, trivial⟩ rfl rfl trivial | exact Joint.goK [1, 1, 1, 0, 0, 0] ((b7, b8), (xa32, xm32, xc32), (xa34, xm34, xc34)) rfl rfl rfl ⟨rfl, rfl, trivial⟩ rfl rfl trivial | exact Joint.goK [0, 1, 1, 0, 0, 0] ((b7, b8), (xa32, xm32, xc32), (xa34, xm34, xc34)) rfl rfl rfl ⟨rfl, rfl, trivial⟩ rfl rfl trivial | exact Joint.goK [1, 0, 1, 0, 0, 0] ((b7, b8), (xa32, xm32, xc32), (xa34, xm34, xc34)) rfl rfl rfl ⟨rfl, rfl, trivial⟩ rfl rfl trivial | exact Joint.goK [0, 0, 1, 0, 0, 0] ((b7, b8), (xa32, xm32, xc32), (xa34, xm34, xc34)) rfl rfl rfl ⟨rfl, rfl, trivial⟩ rfl rfl trivial)
          · refine ABI.s rfl (by decide +kernel) (Stp.alloc ty30 (fun b7 => ?_)) rfl
            refine AB.more [1, 5] (by decide +kernel) rfl ⟨?_, ?_, trivial⟩
            · refine ABI.s rfl (by decide +kernel) (Stp.call rfl Try.call16 (lks rfl) (fun E' le hat => as20_ok E' ⟨_, _, _, _, _, _⟩ _ (Sl.mono (by assumption) le) (by assumption) (by first | assumption | (dsimp only; omega))) ?_) rfl
              rintro _ _ ⟨xa32, xm32, xc32, rfl, rfl⟩
              refine AB.more [3, 5] (by decide +kernel) rfl ⟨?_, ?_, trivial⟩
              · refine ABI.s rfl (by decide +kernel) (Stp.call rfl Try.call16 (lks rfl) (fun E' le hat => as20_ok E' ⟨_, _, _, _, _, _⟩ _ (Sl.mono (by assumption) le) (by assumption) (by first | assumption | (dsimp only; omega))) ?_) rfl
                rintro _ _ ⟨xa34, xm34, xc34, rfl, rfl⟩
                refine AB.s 5 rfl (by decide +kernel) (by decide +kernel) (Stp.alloc ty30 (fun b8 => ?_)) rfl
                refine AB.e 6 rfl (by decide +kernel) (by decide +kernel) (Stp.store 3 Try.sizeOf30 (lk rfl) (lk rfl) rfl rfl rfl rfl rfl rfl rfl ?_)
                refine AB.e 7 rfl (by decide +kernel) (by decide +kernel) (Stp.store 0 Try.sizeOf30 (lk rfl) (lk rfl) rfl rfl rfl rfl rfl rfl rfl ?_)
                refine AB.done (by decide +kernel) ?_
                (first | exact Joint.goK [3, 2, 1, 0, 0, 0] ((b7, b8), (xa32, xm32, xc32), (xa34, xm34, xc34)) rfl rfl rfl ⟨rfl, rfl, trivial⟩ rfl rfl trivial | exact Joint.goK [3, 1, 1, 0, 0, 0] ((b7, b8), (xa32, xm32, xc32), (xa34, xm34, xc34)) rfl rfl rfl ⟨rfl, rfl, trivial⟩ rfl rfl trivial | exact Joint.goK [3, 0, 1, 0, 0, 0] ((b7, b8), (xa32, xm32, xc32), (xa34, xm34, xc34)) rfl rfl rfl ⟨rfl, rfl, trivial⟩ rfl rfl trivial | exact Joint.goK [2, 2, 1, 0, 0, 0] ((b7, b8), (xa32, xm32, xc32), (xa34, xm34, xc34)) rfl rfl rfl ⟨rfl, rfl, trivial⟩ rfl rfl trivial | exact Joint.goK [1, 2, 1, 0, 0, 0] ((b7, b8), (xa32, xm32, xc32), (xa34, xm34, xc34)) rfl rfl rfl ⟨rfl, rfl, trivial⟩ rfl rfl trivial | exact Joint.goK [0, 2, 1, 0, 0, 0] ((b7, b8), (xa32, xm32, xc32), (xa34, xm34, xc34)) rfl rfl rfl ⟨rfl, rfl, trivial⟩ rfl rfl trivial | exact Joint.goK [2, 1, 1, 0, 0, 0] ((b7, b8), (xa32, xm32, xc32), (xa34, xm34, xc34)) rfl rfl rfl ⟨rfl, rfl, trivial⟩ rfl rfl trivial | exact Joint.goK [2, 0, 1, 0, 0, 0] ((b7, b8), (xa32, xm32, xc32), (xa34, xm34, xc34)) rfl rfl rfl ⟨rfl, rfl, trivial⟩ rfl rfl trivial | exact Joint.goK [1, 1, 1, 0, 0, 0] ((b7, b8), (xa32, xm32, xc32), (xa34, xm34, xc34)) rfl rfl rfl ⟨rfl, rfl, trivial⟩ rfl rfl trivial | exact Joint.goK [0, 1, 1, 0, 0, 0] ((b7, b8), (xa32, xm32, xc32), (xa34, xm34, xc34)) rfl rfl rfl ⟨rfl, rfl, trivial⟩ rfl rfl trivial | exact Joint.goK [1, 0, 1, 0, 0, 0] ((b7, b8), (xa32, xm32, xc32), (xa34, xm34, xc34)) rfl rfl rfl ⟨rfl, rfl, trivial⟩ rfl rfl trivial | exact Joint.goK [0, 0, 1, 0, 0, 0] ((b7, b8), (xa32, xm32, xc32), (xa34, xm34, xc34)) rfl rfl rfl ⟨rfl, rfl, trivial⟩ rfl rfl trivial)
              · refine ABI.s rfl (by decide +kernel) (Stp.alloc ty30 (fun b8 => ?_)) rfl
                refine AB.s 3 rfl (by decide +kernel) (by decide +kernel) (Stp.call rfl Try.call16 (lks rfl) (fun E' le hat => as20_ok E' ⟨_, _, _, _, _, _⟩ _ (Sl.mono (by assumption) le) (by assumption) (by first | assumption | (dsimp only; omega))) ?_) rfl
                rintro _ _ ⟨xa34, xm34, xc34, rfl, rfl⟩
                refine AB.e 6 rfl (by decide +kernel) (by decide +kernel) (Stp.store 3 Try.sizeOf30 (lk rfl) (lk rfl) rfl rfl rfl rfl rfl rfl rfl ?_)
                refine AB.e 7 rfl (by decide +kernel) (by decide +kernel) (Stp.store 1 Try.sizeOf30 (lk rfl) (lk rfl) rfl rfl rfl rfl rfl rfl rfl ?_)
                refine AB.done (by decide +kernel) ?_
                (first | exact Joint.goK [3, 2, 1, 0, 0, 0] ((b7, b8), (xa32, xm32, xc32), (xa34, xm34, xc34)) rfl rfl rfl ⟨rfl, rfl, trivial⟩ rfl rfl trivial | exact Joint.goK [3, 1, 1, 0, 0, 0] ((b7, b8), (xa32, xm32, xc32), (xa34, xm34, xc34)) rfl rfl rfl ⟨rfl, rfl, trivial⟩ rfl rfl trivial | exact Joint.goK [3, 0, 1, 0, 0, 0] ((b7, b8), (xa32, xm32, xc32), (xa34, xm34, xc34)) rfl rfl rfl ⟨rfl, rfl, trivial⟩ rfl rfl trivial | exact Joint.goK [2, 2, 1, 0, 0, 0] ((b7, b8), (xa32, xm32, xc32), (xa34, xm34, xc34)) rfl rfl rfl ⟨rfl, rfl, trivial⟩ rfl rfl trivial | exact Joint.goK [1, 2, 1, 0, 0, 0] ((b7, b8), (xa32, xm32, xc32), (xa34, xm34, xc34)) rfl rfl rfl ⟨rfl, rfl, trivial⟩ rfl rfl trivial | exact Joint.goK [0, 2, 1, 0, 0, 0] ((b7, b8), (xa32, xm32, xc32), (xa34, xm34, xc34)) rfl rfl rfl ⟨rfl, rfl, trivial⟩ rfl rfl trivial | exact Joint.goK [2, 1, 1, 0, 0, 0] ((b7, b8), (xa32, xm32, xc32), (xa34, xm34, xc34)) rfl rfl rfl ⟨rfl, rfl, trivial⟩ rfl rfl trivial | exact Joint.goK [2, 0, 1, 0, 0, 0] ((b7, b8), (xa32, xm32, xc32), (xa34, xm34, xc34)) rfl rfl rfl ⟨rfl, rfl, trivial⟩ rfl rfl trivial | exact Joint.goK [1, 1, 1, 0, 0, 0] ((b7, b8), (xa32, xm32, xc32), (xa34, xm34, xc34)) rfl rfl rfl ⟨rfl, rfl, trivial⟩ rfl rfl trivial | exact Joint.goK [0, 1, 1, 0, 0, 0] ((b7, b8), (xa32, xm32, xc32), (xa34, xm34, xc34)) rfl rfl rfl ⟨rfl, rfl, trivial⟩ rfl rfl trivial | exact Joint.goK [1, 0, 1, 0, 0, 0] ((b7, b8), (xa32, xm32, xc32), (xa34, xm34, xc34)) rfl rfl rfl ⟨rfl, rfl, trivial⟩ rfl rfl trivial | exact Joint.goK [0, 0, 1, 0, 0, 0] ((b7, b8), (xa32, xm32, xc32), (xa34, xm34, xc34)) rfl rfl rfl ⟨rfl, rfl, trivial⟩ rfl rfl trivial)
            · refine ABI.s rfl (by decide +kernel) (Stp.alloc ty30 (fun b8 => ?_)) rfl
              refine AB.s 1 rfl (by decide +kernel) (by decide +kernel) (Stp.call rfl Try.call16 (lks rfl) (fun E' le hat => as20_ok E' ⟨_, _, _, _, _, _⟩ _ (Sl.mono (by assumption) le) (by assumption) (by first | assumption | (dsimp only; omega))) ?_) rfl
              rintro _ _ ⟨xa32, xm32, xc32, rfl, rfl⟩
              refine AB.s 3 rfl (by decide +kernel) (by decide +kernel) (Stp.call rfl Try.call16 (lks rfl) (fun E' le hat => as20_ok E' ⟨_, _, _, _, _, _⟩ _ (Sl.mono (by assumption) le) (by assumption) (by first | assumption | (dsimp only; omega))) ?_) rfl
              rintro _ _ ⟨xa34, xm34, xc34, rfl, rfl⟩
              refine AB.e 6 rfl (by decide +kernel) (by decide +kernel) (Stp.store 3 Try.sizeOf30 (lk rfl) (lk rfl) rfl rfl rfl rfl rfl rfl rfl ?_)
              refine AB.e 7 rfl (by decide +kernel) (by decide +kernel) (Stp.store 2 Try.sizeOf30 (lk rfl) (lk rfl) rfl rfl rfl rfl rfl rfl rfl ?_)
              refine AB.done (by decide +kernel) ?_
              (first | exact Joint.goK [3, 2, 1, 0, 0, 0] ((b7, b8), (xa32, xm32, xc32), (xa34, xm34, xc34)) rfl rfl rfl ⟨rfl, rfl, trivial⟩ rfl rfl trivial | exact Joint.goK [3, 1, 1, 0, 0, 0] ((b7, b8), (xa32, xm32, xc32), (xa34, xm34, xc34)) rfl rfl rfl ⟨rfl, rfl, trivial⟩ rfl rfl trivial | exact Joint.goK [3, 0, 1, 0, 0, 0] ((b7, b8), (xa32, xm32, xc32), (xa34, xm34, xc34)) rfl rfl rfl ⟨rfl, rfl, trivial⟩ rfl rfl trivial | exact Joint.goK [2, 2, 1, 0, 0, 0] ((b7, b8), (xa32, xm32, xc32), (xa34, xm34, xc34)) rfl rfl rfl ⟨rfl, rfl, trivial⟩ rfl rfl trivial | exact Joint.goK [1, 2, 1, 0, 0, 0] ((b7, b8), (xa32, xm32, xc32), (xa34, xm34, xc34)) rfl rfl rfl ⟨rfl, rfl, trivial⟩ rfl rfl trivial | exact Joint.goK [0, 2, 1, 0, 0, 0] ((b7, b8), (xa32, xm32, xc32), (xa34, xm34, xc34)) rfl rfl rfl ⟨rfl, rfl, trivial⟩ rfl rfl trivial | exact Joint.goK [2, 1, 1, 0, 0, 0] ((b7, b8), (xa32, xm32, xc32), (xa34, xm34, xc34)) rfl rfl rfl ⟨rfl, rfl, trivial⟩ rfl rfl trivial | exact Joint.goK [2, 0, 1, 0, 0, 0] ((b7, b8), (xa32, xm32, xc32), (xa34, xm34, xc34)) rfl rfl rfl ⟨rfl, rfl, trivial⟩ rfl rfl trivial | exact Joint.goK [1, 1, 1, 0, 0, 0] ((b7, b8), (xa32, xm32, xc32), (xa34, xm34, xc34)) rfl rfl rfl ⟨rfl, rfl, trivial⟩ rfl rfl trivial | exact Joint.goK [0, 1, 1, 0, 0, 0] ((b7, b8), (xa32, xm32, xc32), (xa34, xm34, xc34)) rfl rfl rfl ⟨rfl, rfl, trivial⟩ rfl rfl trivial | exact Joint.goK [1, 0, 1, 0, 0, 0] ((b7, b8), (xa32, xm32, xc32), (xa34, xm34, xc34)) rfl rfl rfl ⟨rfl, rfl, trivial⟩ rfl rfl trivial | exact Joint.goK [0, 0, 1, 0, 0, 0] ((b7, b8), (xa32, xm32, xc32), (xa34, xm34, xc34)) rfl rfl rfl ⟨rfl, rfl, trivial⟩ rfl rfl trivial)
          · refine ABI.s rfl (by decide +kernel) (Stp.alloc ty30 (fun b8 => ?_)) rfl
            refine AB.more [1, 4] (by decide +kernel) rfl ⟨?_, ?_, trivial⟩
            · refine ABI.s rfl (by decide +kernel) (Stp.call rfl Try.call16 (lks rfl) (fun E' le hat => as20_ok E' ⟨_, _, _, _, _, _⟩ _ (Sl.mono (by assumption) le) (by assumption) (by first | assumption | (dsimp only; omega))) ?_) rfl
              rintro _ _ ⟨xa32, xm32, xc32, rfl, rfl⟩
              refine AB.more [3, 4] (by decide +kernel) rfl ⟨?_, ?_, trivial⟩
              · refine ABI.s rfl (by decide +kernel) (Stp.call rfl Try.call16 (lks rfl) (fun E' le hat => as20_ok E' ⟨_, _, _, _, _, _⟩ _ (Sl.mono (by assumption) le) (by assumption) (by first | assumption | (dsimp only; omega))) ?_) rfl
                rintro _ _ ⟨xa34, xm34, xc34, rfl, rfl⟩
                refine AB.s 4 rfl (by decide +kernel) (by decide +kernel) (Stp.alloc ty30 (fun b7 => ?_)) rfl
                refine AB.e 6 rfl (by decide +kernel) (by decide +kernel) (Stp.store 0 Try.sizeOf30 (lk rfl) (lk rfl) rfl rfl rfl rfl rfl rfl rfl ?_)
                refine AB.e 7 rfl (by decide +kernel) (by decide +kernel) (Stp.store 3 Try.sizeOf30 (lk rfl) (lk rfl) rfl rfl rfl rfl rfl rfl rfl ?_)
                refine AB.done (by decide +kernel) ?_
                (first | exact Joint.goK [3, 2, 1, 0, 0, 0] ((b7, b8), (xa32, xm32, xc32), (xa34, xm34, xc34)) rfl rfl rfl ⟨rfl, rfl, trivial⟩ rfl rfl trivial | exact Joint.goK [3, 1, 1, 0, 0, 0] ((b7, b8), (xa32, xm32, xc32), (xa34, xm34, xc34)) rfl rfl rfl ⟨rfl, rfl, trivial⟩ rfl rfl trivial | exact Joint.goK [3, 0, 1, 0, 0, 0] ((b7, b8), (xa32, xm32, xc32), (xa34, xm34, xc34)) rfl rfl rfl ⟨rfl, rfl, trivial⟩ rfl rfl trivial | exact Joint.goK [2, 2, 1, 0, 0, 0] ((b7, b8), (xa32, xm32, xc32), (xa34, xm34, xc34)) rfl rfl rfl ⟨rfl, rfl, trivial⟩ rfl rfl trivial | exact Joint.goK [1, 2, 1, 0, 0, 0] ((b7, b8), (xa32, xm32, xc32), (xa34, xm34, xc34)) rfl rfl rfl ⟨rfl, rfl, trivial⟩ rfl rfl trivial | exact Joint.goK [0, 2, 1, 0, 0, 0] ((b7, b8), (xa32, xm32, xc32), (xa34, xm34, xc34)) rfl rfl rfl ⟨rfl, rfl, trivial⟩ rfl rfl trivial | exact Joint.goK [2, 1, 1, 0, 0, 0] ((b7, b8), (xa32, xm32, xc32), (xa34, xm34, xc34)) rfl rfl rfl ⟨rfl, rfl, trivial⟩ rfl rfl trivial | exact Joint.goK [2, 0, 1, 0, 0, 0] ((b7, b8), (xa32, xm32, xc32), (xa34, xm34, xc34)) rfl rfl rfl ⟨rfl, rfl, trivial⟩ rfl rfl trivial | exact Joint.goK [1, 1, 1, 0, 0, 0] ((b7, b8), (xa32, xm32, xc32), (xa34, xm34, xc34)) rfl rfl rfl ⟨rfl, rfl, trivial⟩ rfl rfl trivial | exact Joint.goK [0, 1, 1, 0, 0, 0] ((b7, b8), (xa32, xm32, xc32), (xa34, xm34, xc34)) rfl rfl rfl ⟨rfl, rfl, trivial⟩ rfl rfl trivial | exact Joint.goK [1, 0, 1, 0, 0, 0] ((b7, b8), (xa32, xm32, xc32), (xa34, xm34, xc34)) rfl rfl rfl ⟨rfl, rfl, trivial⟩ rfl rfl trivial | exact Joint.goK [0, 0, 1, 0, 0, 0] ((b7, b8), (xa32, xm32, xc32), (xa34, xm34, xc34)) rfl rfl rfl ⟨rfl, rfl, trivial⟩ rfl rfl trivial)
              · refine ABI.s rfl (by decide +kernel) (Stp.alloc ty30 (fun b7 => ?_)) rfl
                refine AB.s 3 rfl (by decide +kernel) (by decide +kernel) (Stp.call rfl Try.call16 (lks rfl) (fun E' le hat => as20_ok E' ⟨_, _, _, _, _, _⟩ _ (Sl.mono (by assumption) le) (by assumption) (by first | assumption | (dsimp only; omega))) ?_) rfl
                rintro _ _ ⟨xa34, xm34, xc34, rfl, rfl⟩
                refine AB.e 6 rfl (by decide +kernel) (by decide +kernel) (Stp.store 1 Try.sizeOf30 (lk rfl) (lk rfl) rfl rfl rfl rfl rfl rfl rfl ?_)
                refine AB.e 7 rfl (by decide +kernel) (by decide +kernel) (Stp.store 3 Try.sizeOf30 (lk rfl) (lk rfl) rfl rfl rfl rfl rfl rfl rfl ?_)
                refine AB.done (by decide +kernel) ?_
                (first | exact Joint.goK [3, 2, 1, 0, 0, 0] ((b7, b8), (xa32, xm32, xc32), (xa34, xm34, xc34)) rfl rfl rfl ⟨rfl, rfl, trivial⟩ rfl rfl trivial | exact Joint.goK [3, 1, 1, 0, 0, 0] ((b7, b8), (xa32, xm32, xc32), (xa34, xm34, xc34)) rfl rfl rfl ⟨rfl, rfl, trivial⟩ rfl rfl trivial | exact Joint.goK [3, 0, 1, 0, 0, 0] ((b7, b8), (xa32, xm32, xc32), (xa34, xm34, xc34)) rfl rfl rfl ⟨rfl, rfl, trivial⟩ rfl rfl trivial | exact Joint.goK [2, 2, 1, 0, 0, 0] ((b7, b8), (xa32, xm32, xc32), (xa34, xm34, xc34)) rfl rfl rfl ⟨rfl, rfl, trivial⟩ rfl rfl trivial | exact Joint.goK [1, 2, 1, 0, 0, 0] ((b7, b8), (xa32, xm32, xc32), (xa34, xm34, xc34)) rfl rfl rfl ⟨rfl, rfl, trivial⟩ rfl rfl trivial | exact Joint.goK [0, 2, 1, 0, 0, 0] ((b7, b8), (xa32, xm32, xc32), (xa34, xm34, xc34)) rfl rfl rfl ⟨rfl, rfl, trivial⟩ rfl rfl trivial | exact Joint.goK [2, 1, 1, 0, 0, 0] ((b7, b8), (xa32, xm32, xc32), (xa34, xm34, xc34)) rfl rfl rfl ⟨rfl, rfl, trivial⟩ rfl rfl trivial | exact Joint.goK [2, 0, 1, 0, 0, 0] ((b7, b8), (xa32, xm32, xc32), (xa34, xm34, xc34)) rfl rfl rfl ⟨rfl, rfl, trivial⟩ rfl rfl trivial | exact Joint.goK [1, 1, 1, 0, 0, 0] ((b7, b8), (xa32, xm32, xc32), (xa34, xm34, xc34)) rfl rfl rfl ⟨rfl, rfl, trivial⟩ rfl rfl trivial | exact Joint.goK [0, 1, 1, 0, 0, 0] ((b7, b8), (xa32, xm32, xc32), (xa34, xm34, xc34)) rfl rfl rfl ⟨rfl, rfl, trivial⟩ rfl rfl trivial | exact Joint.goK [1, 0, 1, 0, 0, 0] ((b7, b8), (xa32, xm32, xc32), (xa34, xm34, xc34)) rfl rfl rfl ⟨rfl, rfl, trivial⟩ rfl rfl trivial | exact Joint.goK [0, 0, 1, 0, 0, 0] ((b7, b8), (xa32, xm32, xc32), (xa34, xm34, xc34)) rfl rfl rfl ⟨rfl, rfl, trivial⟩ rfl rfl trivial)
            · refine ABI.s rfl (by decide +kernel) (Stp.alloc ty30 (fun b7 => ?_)) rfl
              refine AB.s 1 rfl (by decide +kernel) (by decide +kernel) (Stp.call rfl Try.call16 (lks rfl) (fun E' le hat => as20_ok E' ⟨_, _, _, _, _, _⟩ _ (Sl.mono (by assumption) le) (by assumption) (by first | assumption | (dsimp only; omega))) ?_) rfl
              rintro _ _ ⟨xa32, xm32, xc32, rfl, rfl⟩
              refine AB.s 3 rfl (by decide +kernel) (by decide +kernel) (Stp.call rfl Try.call16 (lks rfl) (fun E' le hat => as20_ok E' ⟨_, _, _, _, _, _⟩ _ (Sl.mono (by assumption) le) (by assumption) (by first | assumption | (dsimp only; omega))) ?_) rfl
              rintro _ _ ⟨xa34, xm34, xc34, rfl, rfl⟩
              refine AB.e 6 rfl (by decide +kernel) (by decide +kernel) (Stp.store 2 Try.sizeOf30 (lk rfl) (lk rfl) rfl rfl rfl rfl rfl rfl rfl ?_)
              refine AB.e 7 rfl (by decide +kernel) (by decide +kernel) (Stp.store 3 Try.sizeOf30 (lk rfl) (lk rfl) rfl rfl rfl rfl rfl rfl rfl ?_)
              refine AB.done (by decide +kernel) ?_
              (first | exact Joint.goK [3, 2, 1, 0, 0, 0] ((b7, b8), (xa32, xm32, xc32), (xa34, xm34, xc34)) rfl rfl rfl ⟨rfl, rfl, trivial⟩ rfl rfl trivial | exact Joint.goK [3, 1, 1, 0, 0, 0] ((b7, b8), (xa32, xm32, xc32), (xa34, xm34, xc34)) rfl rfl rfl ⟨rfl, rfl, trivial⟩ rfl rfl trivial | exact Joint.goK [3, 0, 1, 0, 0, 0] ((b7, b8), (xa32, xm32, xc32), (xa34, xm34, xc34)) rfl rfl rfl ⟨rfl, rfl, trivial⟩ rfl rfl trivial | exact Joint.goK [2, 2, 1, 0, 0, 0] ((b7, b8), (xa32, xm32, xc32), (xa34, xm34, xc34)) rfl rfl rfl ⟨rfl, rfl, trivial⟩ rfl rfl trivial | exact Joint.goK [1, 2, 1, 0, 0, 0] ((b7, b8), (xa32, xm32, xc32), (xa34, xm34, xc34)) rfl rfl rfl ⟨rfl, rfl, trivial⟩ rfl rfl trivial | exact Joint.goK [0, 2, 1, 0, 0, 0] ((b7, b8), (xa32, xm32, xc32), (xa34, xm34, xc34)) rfl rfl rfl ⟨rfl, rfl, trivial⟩ rfl rfl trivial | exact Joint.goK [2, 1, 1, 0, 0, 0] ((b7, b8), (xa32, xm32, xc32), (xa34, xm34, xc34)) rfl rfl rfl ⟨rfl, rfl, trivial⟩ rfl rfl trivial | exact Joint.goK [2, 0, 1, 0, 0, 0] ((b7, b8), (xa32, xm32, xc32), (xa34, xm34, xc34)) rfl rfl rfl ⟨rfl, rfl, trivial⟩ rfl rfl trivial | exact Joint.goK [1, 1, 1, 0, 0, 0] ((b7, b8), (xa32, xm32, xc32), (xa34, xm34, xc34)) rfl rfl rfl ⟨rfl, rfl, trivial⟩ rfl rfl trivial | exact Joint.goK [0, 1, 1, 0, 0, 0] ((b7, b8), (xa32, xm32, xc32), (xa34, xm34, xc34)) rfl rfl rfl ⟨rfl, rfl, trivial⟩ rfl rfl trivial | exact Joint.goK [1, 0, 1, 0, 0, 0] ((b7, b8), (xa32, xm32, xc32), (xa34, xm34, xc34)) rfl rfl rfl ⟨rfl, rfl, trivial⟩ rfl rfl trivial | exact Joint.goK [0, 0, 1, 0, 0, 0] ((b7, b8), (xa32, xm32, xc32), (xa34, xm34, xc34)) rfl rfl rfl ⟨rfl, rfl, trivial⟩ rfl rfl trivial)
        · rintro ⟨⟨b7, b8⟩, ⟨xa, xm, xc⟩, ⟨ya, ym, yc⟩⟩ u _
          dsimp only
          refine Body.seq ?_
          refine Body.region ?_
          refine Ops.d (Det.lda Try.isAgg24 Try.sizeOf24 (lk rfl) (Rds.ow (m := 6) 5 rfl rfl) rfl) rfl ?_
          refine Ops.s (Stp.call rfl Try.call28 (lks rfl) (fun E' le hat => write_any E' ⟨vr, vc, cells, vo, vl, vv⟩ _ (Sl.mono hv le)) ?_) rfl
          rintro _ _ ⟨s37, rfl, rfl⟩
          refine Ops.u (Dtu.mv (lk rfl)) rfl ?_
          refine Ops.u (Dtu.ext (lk rfl) rfl) rfl ?_
          refine Ops.u (Dtu.ext (lk rfl) rfl) rfl ?_
          refine Ops.u (Dtu.asg (lk rfl)) rfl ?_
          refine Ops.u (Dtu.asg (lk rfl)) rfl ?_
          refine Ops.nil ?_
          refine Then.next ?_
          refine Body.seq ?_
          refine Body.region ?_
          refine Ops.u (Dtu.mv (lk rfl)) rfl ?_
          refine Ops.s (Stp.call rfl Try.call29 (lks rfl) (fun E' le hat => read_any E' _ _ (Sl.mono hb le) hbt) ?_) rfl
          rintro _ _ ⟨s42, rfl, rfl⟩
          refine Ops.u (Dtu.mv (lk rfl)) rfl ?_
          refine Ops.u (Dtu.ext (lk rfl) rfl) rfl ?_
          refine Ops.u (Dtu.ext (lk rfl) rfl) rfl ?_
          refine Ops.s (Stp.alloc ty24 (fun b11 => ?_)) rfl
          refine Ops.pure (Sl.isSl (Sl.osl 1 rfl)) fun h42 => ?_
          obtain ⟨ua, um, uc, rfl⟩ := h42
          refine Ops.e (Stp.store 0 Try.sizeOf24 (lk rfl) (lk rfl) rfl rfl rfl rfl rfl rfl rfl ?_)
          refine Ops.u (Dtu.asg (lk rfl)) rfl ?_
          refine Ops.nil ?_
          refine Then.next ?_
          refine Body.seq ?_
          refine Body.region ?_
          refine Ops.u (Dtu.mv (lk rfl)) rfl ?_
          refine Ops.s (Stp.call rfl Try.call30 (lks rfl) (fun E' le hat => rread_any E' _ _ (Sl.mono hb le) hbt) ?_) rfl
          rintro _ _ ⟨s47, rfl, rfl⟩
          refine Ops.u (Dtu.mv (lk rfl)) rfl ?_
          refine Ops.u (Dtu.ext (lk rfl) rfl) rfl ?_
          refine Ops.u (Dtu.ext (lk rfl) rfl) rfl ?_
          refine Ops.s (Stp.alloc ty30 (fun b13 => ?_)) rfl
          refine Ops.pure (Sl.isSl (Sl.osl 1 rfl)) fun h47 => ?_
          obtain ⟨ra, rm, rc, rfl⟩ := h47
          refine Ops.e (Stp.store 0 Try.sizeOf30 (lk rfl) (lk rfl) rfl rfl rfl rfl rfl rfl rfl ?_)
          refine Ops.u (Dtu.asg (lk rfl)) rfl ?_
          refine Ops.nil ?_
          refine Then.next ?_
          refine Body.seq ?_
          refine Body.seq ?_
          refine Body.draw mixed ?_
          refine AB.d 0 rfl (by decide +kernel) rfl (Det.lda Try.isAgg24 Try.sizeOf24 (lk rfl) (Rds.ow (m := 6) 10 rfl rfl) rfl) rfl ?_
          refine AB.d 2 rfl (by decide +kernel) rfl (Det.lda Try.isAgg30 Try.sizeOf30 (lk rfl) (Rds.ow (m := 6) 5 rfl rfl) rfl) rfl ?_
          refine AB.s 1 rfl (by decide +kernel) (by decide +kernel) (Stp.call rfl Try.call25 (lks rfl) (fun E' le hat => right_ok E' ⟨_, _, _, _, _, _⟩ _ (Sl.mono (by assumption) le)) ?_) rfl
          rintro _ _ ⟨rfl, rfl⟩
          have hn1 : ¬ (View.ok (View.mk vr vc cells vo vl vv) ≠ View.ok (View.mk vr vc cells vo vl vv)) := fun h => h rfl
          have hn2 : ¬ (decide ((View.mk vr vc cells vo vl vv) = (View.mk wr wc dells wo wl wv)) ≠ decide ((View.mk vr vc cells vo vl vv) = (View.mk wr wc dells wo wl wv))) := fun h => h rfl
          have hn3 : ¬ ¬ (rdV bs = rdV bs) := fun h => h rfl
          have hE : rdK bs = false → rdE bs = 3 := fun h => by
            cases hr : readV bs <;> simp [rdE, rdK, hr] at h ⊢
          have hn4 : ¬ (decide (rdE bs = 0) ≠ rdK bs) := fun h => h rk
          refine AB.s 3 rfl (by decide +kernel) (by decide +kernel) (Stp.call rfl Try.call18 (lks rfl) (fun E' le hat => rright_ok E' (View.mk vr vc cells vo vl vv) (.slice xa xm xc) (Sl.at (hat _ (.tail _ (.tail _ (.tail _ (.tail _ (.tail _ (.tail _ (.tail _ (.head _)))))))))) gv) ?_) rfl
          rintro _ _ ⟨rfl, rfl⟩
          refine AB.u 4 rfl (by decide +kernel) (Dtu.neB Try.underlying4 (lk rfl) (lk rfl)) rfl ?_
          refine AB.u 5 rfl (by decide +kernel) (Dtu.mv (lk rfl)) rfl ?_
          refine AB.decP 55 rfl (fun hy => absurd hy (by first | omega | assumption | decide)) (fun _ => ?_)
          refine AB.gd 6 rfl (by decide +kernel) rfl rfl rfl rfl (Det.lda Try.isAgg24 Try.sizeOf24 (lk rfl) (Rds.ow (m := 6) 10 rfl rfl) rfl) rfl ?_
          refine AB.gd 7 rfl (by decide +kernel) rfl rfl rfl rfl (Det.lda Try.isAgg24 Try.sizeOf24 (lk rfl) (Rds.ow (m := 6) 9 rfl rfl) rfl) rfl ?_
          refine AB.gd 9 rfl (by decide +kernel) rfl rfl rfl rfl (Det.lda Try.isAgg30 Try.sizeOf30 (lk rfl) (Rds.ow (m := 6) 5 rfl rfl) rfl) rfl ?_
          refine AB.gd 10 rfl (by decide +kernel) rfl rfl rfl rfl (Det.lda Try.isAgg30 Try.sizeOf30 (lk rfl) (Rds.ow (m := 6) 6 rfl rfl) rfl) rfl ?_
          refine AB.gs 8 rfl (by decide +kernel) (by decide +kernel) rfl rfl rfl (Stp.call rfl Try.call26 (lks rfl) (fun E' le hat => same_ok E' ⟨_, _, _, _, _, _⟩ ⟨_, _, _, _, _, _⟩ _ _ (Sl.mono (by assumption) le) (Sl.mono (by assumption) le)) ?_) rfl
          rintro _ _ ⟨rfl, rfl⟩
          refine AB.gs 11 rfl (by decide +kernel) (by decide +kernel) rfl rfl rfl (Stp.call rfl Try.call24 (lks rfl) (fun E' le hat => rsame_ok E' (View.mk vr vc cells vo vl vv) (View.mk wr wc dells wo wl wv) (.slice xa xm xc) (.slice ya ym yc) (Sl.at (hat _ (.tail _ (.tail _ (.tail _ (.tail _ (.tail _ (.tail _ (.tail _ (.head _)))))))))) (Sl.at (hat _ (.tail _ (.tail _ (.tail _ (.tail _ (.tail _ (.tail _ (.tail _ (.tail _ (.head _))))))))))) fv fo) ?_) rfl
          rintro _ _ ⟨rfl, rfl⟩
          refine AB.gu 12 rfl (by decide +kernel) rfl rfl rfl (Dtu.neB Try.underlying4 (lk rfl) (lk rfl)) rfl ?_
          refine AB.u 13 rfl (by decide +kernel) (Dtu.pickF (lk rfl) (lk rfl)) rfl ?_
          refine AB.u 14 rfl (by decide +kernel) (Dtu.mv (lk rfl)) rfl ?_
          refine AB.decP 64 rfl (fun hy => absurd hy (by first | omega | assumption | decide)) (fun _ => ?_)
          refine AB.gd 15 rfl (by decide +kernel) rfl rfl rfl rfl (Det.lda Try.isAgg24 Try.sizeOf24 (lk rfl) (Rds.ow (m := 6) 2 rfl rfl) rfl) rfl ?_
          refine AB.gd 17 rfl (by decide +kernel) rfl rfl rfl rfl (Det.lda Try.isAgg30 Try.sizeOf30 (lk rfl) (Rds.ow (m := 6) 0 rfl rfl) rfl) rfl ?_
          refine AB.gs 16 rfl (by decide +kernel) (by decide +kernel) rfl rfl rfl (Stp.call rfl Try.call16 (lks rfl) (fun E' le hat => as20_ok E' (rdV bs) (.slice ua um uc) (Sl.at (hat _ (.tail _ (.tail _ (.tail _ (.head _)))))) rf (by omega)) ?_) rfl
          rintro _ _ ⟨qa, qm, qc, rfl, rfl⟩
          skip
          refine AB.gs 18 rfl (by decide +kernel) (by decide +kernel) rfl rfl rfl (Stp.call rfl Try.call24 (lks rfl) (fun E' le hat => rsame_ok E' (rdV bs) (rdV bs) (.slice qa qm qc) (.slice ra rm rc) (Sl.at (hat _ (.head _))) (Sl.at (hat _ (.tail _ (.tail _ (.head _))))) rf rf) ?_) rfl
          rintro _ _ ⟨rfl, rfl⟩
          refine AB.gu 19 rfl (by decide +kernel) rfl rfl rfl (Dtu.notP (lk rfl)) rfl ?_
          refine AB.u 20 rfl (by decide +kernel) (Dtu.pickF (lk rfl) (lk rfl)) rfl ?_
          refine AB.u 21 rfl (by decide +kernel) (Dtu.mv (lk rfl)) rfl ?_
          refine AB.decP 71 rfl (fun hy => absurd hy (by first | omega | assumption | decide)) (fun _ => ?_)
          refine AB.gu 22 rfl (by decide +kernel) rfl rfl rfl (Dtu.mv (lk rfl)) rfl ?_
          refine AB.gu 23 rfl (by decide +kernel) rfl rfl rfl (Dtu.eql (lk rfl) (lk rfl)) rfl ?_
          refine AB.gu 24 rfl (by decide +kernel) rfl rfl rfl (Dtu.mv (lk rfl)) rfl ?_
          refine AB.gu 25 rfl (by decide +kernel) rfl rfl rfl (Dtu.neB Try.underlying4 (lk rfl) (lk rfl)) rfl ?_
          refine AB.u 26 rfl (by decide +kernel) (Dtu.pickF (lk rfl) (lk rfl)) rfl ?_
          refine AB.u 27 rfl (by decide +kernel) (Dtu.mv (lk rfl)) rfl ?_
          refine AB.decP 77 rfl (fun hy => absurd hy (by first | omega | assumption | decide)) (fun _ => ?_)
          refine AB.gu 28 rfl (by decide +kernel) rfl rfl rfl (Dtu.mv (lk rfl)) rfl ?_
          refine AB.gu 29 rfl (by decide +kernel) rfl rfl rfl (Dtu.not (lk rfl)) rfl ?_
          refine AB.gu 30 rfl (by decide +kernel) rfl rfl rfl (Dtu.mv (lk rfl)) rfl ?_
          refine AB.dec 80 rfl (fun c80 => ?_) (fun c80 => ?_)
          · have hE3 := hE (by simpa using c80)
            have hE4 : ¬ (rdE bs ≠ 3) := fun h => h hE3
            refine AB.gu 31 rfl (by decide +kernel) rfl rfl rfl (Dtu.mv (lk rfl)) rfl ?_
            refine AB.gu 32 rfl (by decide +kernel) rfl rfl rfl (Dtu.neq (lk rfl) (lk rfl)) rfl ?_
            refine AB.gu 33 rfl (by decide +kernel) rfl rfl rfl (Dtu.pickT (lk rfl) (lk rfl)) rfl ?_
            refine AB.u 34 rfl (by decide +kernel) (Dtu.pickF (lk rfl) (lk rfl)) rfl ?_
            refine AB.done (by decide +kernel) ?_
            refine Then.next ?_
            refine Body.condP (lk rfl) (fun hy => absurd hy (by first | omega | assumption | decide)) (fun _ => ?_)
            refine Body.skip ?_
            refine Then.next ?_
            refine Body.seq ?_
            refine Body.seq ?_
            refine Body.region ?_
            refine Ops.d (Det.lda Try.isAgg30 Try.sizeOf30 (lk rfl) (Rds.ow (m := 6) 6 rfl rfl) rfl) rfl ?_
            refine Ops.s (Stp.call rfl Try.call18 (lks rfl) (fun E' le hat => rright_ok E' (View.mk vr vc cells vo vl vv) (.slice xa xm xc) (Sl.at (hat _ (.tail _ (.tail _ (.tail _ (.tail _ (.tail _ (.tail _ (.tail _ (.tail _ (.head _))))))))))) gv) ?_) rfl
            rintro _ _ ⟨rfl, rfl⟩
            cases hk : View.ok (View.mk vr vc cells vo vl vv) with
            | false =>
              have hw : View.wE (View.mk vr vc cells vo vl vv) = 3 := by simp [View.wE, hk]
              have hw2 : View.wB (View.mk vr vc cells vo vl vv) = [] := by simp [View.wB, hk]
              refine Ops.u (Dtu.not (lk rfl)) rfl ?_
              refine Ops.nil ?_
              refine Then.next ?_
              refine Body.condT (lk rfl) ?_
              refine Body.seq ?_
              refine Body.region ?_
              refine Ops.s (Stp.call rfl Try.call27 (lks rfl) (fun E' le hat => alive20_ok E') ?_) rfl
              rintro _ _ ⟨rfl, rfl⟩
              refine Ops.u (Dtu.mv (lk rfl)) rfl ?_
              refine Ops.gu rfl rfl rfl (Dtu.mv (lk rfl)) rfl ?_
              refine Ops.gu rfl rfl rfl (Dtu.eql (lk rfl) (lk rfl)) rfl ?_
              refine Ops.u (Dtu.pickT (lk rfl) (lk rfl)) rfl ?_
              refine Ops.u (Dtu.mv (lk rfl)) rfl ?_
              refine Ops.decP 93 rfl (fun _ => ?_) (fun hn => absurd (by first | omega | assumption | decide) hn)
              refine Ops.gu rfl rfl rfl (Dtu.mv (lk rfl)) rfl ?_
              refine Ops.gu rfl rfl rfl (Dtu.lenS Try.underlying32 (Sl.osl 5 rfl) (lk rfl)) rfl ?_
              refine Ops.gu rfl rfl rfl (Dtu.eql (lk rfl) (lk rfl)) rfl ?_
              refine Ops.u (Dtu.pickT (lk rfl) (lk rfl)) rfl ?_
              refine Ops.u (Dtu.asg (lk rfl)) rfl ?_
              refine Ops.nil ?_
              refine Then.next ?_
              refine Body.ret ?_
              refine Then.ret ?_
              exact ⟨.inr rfl, _, pk [] rfl, bool_eq (by simp [hw2]), rfl⟩
            | true =>
              have hw : View.wE (View.mk vr vc cells vo vl vv) = 0 := by simp [View.wE, hk]
              have hw2 : View.wB (View.mk vr vc cells vo vl vv) = View.bytes (View.mk vr vc cells vo vl vv) := by simp [View.wB, hk]
              refine Ops.u (Dtu.not (lk rfl)) rfl ?_
              refine Ops.nil ?_
              refine Then.next ?_
              refine Body.condF (lk rfl) ?_
              refine Body.skip ?_
              refine Then.next ?_
              refine Body.seq ?_
              refine Body.draw mixed ?_
              refine AB.s 0 rfl (by decide +kernel) (by decide +kernel) (Stp.call rfl Try.call27 (lks rfl) (fun E' le hat => alive20_ok E') ?_) rfl
              rintro _ _ ⟨rfl, rfl⟩
              refine AB.u 1 rfl (by decide +kernel) (Dtu.mv (lk rfl)) rfl ?_
              refine AB.gu 2 rfl (by decide +kernel) rfl rfl rfl (Dtu.mv (lk rfl)) rfl ?_
              refine AB.gu 3 rfl (by decide +kernel) rfl rfl rfl (Dtu.eql (lk rfl) (lk rfl)) rfl ?_
              refine AB.u 4 rfl (by decide +kernel) (Dtu.pickT (lk rfl) (lk rfl)) rfl ?_
              refine AB.u 5 rfl (by decide +kernel) (Dtu.mv (lk rfl)) rfl ?_
              refine AB.decP 103 rfl (fun _ => ?_) (fun hn => absurd (by first | omega | assumption | decide) hn)
              refine AB.gu 6 rfl (by decide +kernel) rfl rfl rfl (Dtu.mv (lk rfl)) rfl ?_
              refine AB.gd 7 rfl (by decide +kernel) rfl rfl rfl rfl (Det.bstr Try.underlying32 Try.underlying5 Try.underlying9 (lk rfl) (Sl.osl 5 rfl)) rfl ?_
              refine AB.gd 8 rfl (by decide +kernel) rfl rfl rfl rfl (Det.lda Try.isAgg30 Try.sizeOf30 (lk rfl) (Rds.ow (m := 6) 6 rfl rfl) rfl) rfl ?_
              refine AB.gs 9 rfl (by decide +kernel) (by decide +kernel) rfl rfl rfl (Stp.call rfl Try.call31 (lks rfl) (fun E' le hat => rwrite_ok E' (View.mk vr vc cells vo vl vv) (.slice xa xm xc) (Sl.at (hat _ (.tail _ (.tail _ (.tail _ (.tail _ (.tail _ (.tail _ (.tail _ (.tail _ (.head _))))))))))) fv hk) ?_) rfl
              rintro _ _ ⟨s107, rfl, rfl⟩
              refine AB.gd 10 rfl (by decide +kernel) rfl rfl rfl rfl (Det.bstr Try.underlying32 Try.underlying5 Try.underlying9 (lk rfl) (Sl.osl 0 rfl)) rfl ?_
              refine AB.gu 11 rfl (by decide +kernel) rfl rfl rfl (Dtu.eqStr (lk rfl) (lk rfl)) rfl ?_
              refine AB.u 12 rfl (by decide +kernel) (Dtu.pickT (lk rfl) (lk rfl)) rfl ?_
              refine AB.u 13 rfl (by decide +kernel) (Dtu.asg (lk rfl)) rfl ?_
              refine AB.done (by decide +kernel) ?_
              refine Then.next ?_
              refine Body.ret ?_
              exact ⟨.inr rfl, _, pk [] rfl, bool_eq (by simp [hw2]), rfl⟩
          · refine AB.gn 31 rfl (by decide +kernel) rfl rfl rfl rfl rfl ?_
            refine AB.gn 32 rfl (by decide +kernel) rfl rfl rfl rfl rfl ?_
            refine AB.gu 33 rfl (by decide +kernel) rfl rfl rfl (Dtu.pickF (lk rfl) (lk rfl)) rfl ?_
            refine AB.u 34 rfl (by decide +kernel) (Dtu.pickF (lk rfl) (lk rfl)) rfl ?_
            refine AB.done (by decide +kernel) ?_
            refine Then.next ?_
            refine Body.condF (lk rfl) ?_
            refine Body.skip ?_
            refine Then.next ?_
            refine Body.seq ?_
            refine Body.seq ?_
            refine Body.region ?_
            refine Ops.d (Det.lda Try.isAgg30 Try.sizeOf30 (lk rfl) (Rds.ow (m := 6) 6 rfl rfl) rfl) rfl ?_
            refine Ops.s (Stp.call rfl Try.call18 (lks rfl) (fun E' le hat => rright_ok E' (View.mk vr vc cells vo vl vv) (.slice xa xm xc) (Sl.at (hat _ (.tail _ (.tail _ (.tail _ (.tail _ (.tail _ (.tail _ (.tail _ (.tail _ (.head _))))))))))) gv) ?_) rfl
            rintro _ _ ⟨rfl, rfl⟩
            cases hk : View.ok (View.mk vr vc cells vo vl vv) with
            | false =>
              have hw : View.wE (View.mk vr vc cells vo vl vv) = 3 := by simp [View.wE, hk]
              have hw2 : View.wB (View.mk vr vc cells vo vl vv) = [] := by simp [View.wB, hk]
              refine Ops.u (Dtu.not (lk rfl)) rfl ?_
              refine Ops.nil ?_
              refine Then.next ?_
              refine Body.condT (lk rfl) ?_
              refine Body.seq ?_
              refine Body.region ?_
              refine Ops.s (Stp.call rfl Try.call27 (lks rfl) (fun E' le hat => alive20_ok E') ?_) rfl
              rintro _ _ ⟨rfl, rfl⟩
              refine Ops.u (Dtu.mv (lk rfl)) rfl ?_
              refine Ops.gu rfl rfl rfl (Dtu.mv (lk rfl)) rfl ?_
              refine Ops.gu rfl rfl rfl (Dtu.eql (lk rfl) (lk rfl)) rfl ?_
              refine Ops.u (Dtu.pickT (lk rfl) (lk rfl)) rfl ?_
              refine Ops.u (Dtu.mv (lk rfl)) rfl ?_
              refine Ops.decP 93 rfl (fun _ => ?_) (fun hn => absurd (by first | omega | assumption | decide) hn)
              refine Ops.gu rfl rfl rfl (Dtu.mv (lk rfl)) rfl ?_
              refine Ops.gu rfl rfl rfl (Dtu.lenS Try.underlying32 (Sl.osl 5 rfl) (lk rfl)) rfl ?_
              refine Ops.gu rfl rfl rfl (Dtu.eql (lk rfl) (lk rfl)) rfl ?_
              refine Ops.u (Dtu.pickT (lk rfl) (lk rfl)) rfl ?_
              refine Ops.u (Dtu.asg (lk rfl)) rfl ?_
              refine Ops.nil ?_
              refine Then.next ?_
              refine Body.ret ?_
              refine Then.ret ?_
              exact ⟨.inr rfl, _, pk [] rfl, bool_eq (by simp [hw2]), rfl⟩
            | true =>
              have hw : View.wE (View.mk vr vc cells vo vl vv) = 0 := by simp [View.wE, hk]
              have hw2 : View.wB (View.mk vr vc cells vo vl vv) = View.bytes (View.mk vr vc cells vo vl vv) := by simp [View.wB, hk]
              refine Ops.u (Dtu.not (lk rfl)) rfl ?_
              refine Ops.nil ?_
              refine Then.next ?_
              refine Body.condF (lk rfl) ?_
              refine Body.skip ?_
              refine Then.next ?_
              refine Body.seq ?_
              refine Body.draw mixed ?_
              refine AB.s 0 rfl (by decide +kernel) (by decide +kernel) (Stp.call rfl Try.call27 (lks rfl) (fun E' le hat => alive20_ok E') ?_) rfl
              rintro _ _ ⟨rfl, rfl⟩
              refine AB.u 1 rfl (by decide +kernel) (Dtu.mv (lk rfl)) rfl ?_
              refine AB.gu 2 rfl (by decide +kernel) rfl rfl rfl (Dtu.mv (lk rfl)) rfl ?_
              refine AB.gu 3 rfl (by decide +kernel) rfl rfl rfl (Dtu.eql (lk rfl) (lk rfl)) rfl ?_
              refine AB.u 4 rfl (by decide +kernel) (Dtu.pickT (lk rfl) (lk rfl)) rfl ?_
              refine AB.u 5 rfl (by decide +kernel) (Dtu.mv (lk rfl)) rfl ?_
              refine AB.decP 103 rfl (fun _ => ?_) (fun hn => absurd (by first | omega | assumption | decide) hn)
              refine AB.gu 6 rfl (by decide +kernel) rfl rfl rfl (Dtu.mv (lk rfl)) rfl ?_
              refine AB.gd 7 rfl (by decide +kernel) rfl rfl rfl rfl (Det.bstr Try.underlying32 Try.underlying5 Try.underlying9 (lk rfl) (Sl.osl 5 rfl)) rfl ?_
              refine AB.gd 8 rfl (by decide +kernel) rfl rfl rfl rfl (Det.lda Try.isAgg30 Try.sizeOf30 (lk rfl) (Rds.ow (m := 6) 6 rfl rfl) rfl) rfl ?_
              refine AB.gs 9 rfl (by decide +kernel) (by decide +kernel) rfl rfl rfl (Stp.call rfl Try.call31 (lks rfl) (fun E' le hat => rwrite_ok E' (View.mk vr vc cells vo vl vv) (.slice xa xm xc) (Sl.at (hat _ (.tail _ (.tail _ (.tail _ (.tail _ (.tail _ (.tail _ (.tail _ (.tail _ (.head _))))))))))) fv hk) ?_) rfl
              rintro _ _ ⟨s107, rfl, rfl⟩
              refine AB.gd 10 rfl (by decide +kernel) rfl rfl rfl rfl (Det.bstr Try.underlying32 Try.underlying5 Try.underlying9 (lk rfl) (Sl.osl 0 rfl)) rfl ?_
              refine AB.gu 11 rfl (by decide +kernel) rfl rfl rfl (Dtu.eqStr (lk rfl) (lk rfl)) rfl ?_
              refine AB.u 12 rfl (by decide +kernel) (Dtu.pickT (lk rfl) (lk rfl)) rfl ?_
              refine AB.u 13 rfl (by decide +kernel) (Dtu.asg (lk rfl)) rfl ?_
              refine AB.done (by decide +kernel) ?_
              refine Then.next ?_
              refine Body.ret ?_
              exact ⟨.inr rfl, _, pk [] rfl, bool_eq (by simp [hw2]), rfl⟩
end Go.Proofs.Ytijjjdljdjnbaaa
end
