/- Patches: what a patch is; the cells it begins with; numbers' bytes. -/
import Derived.Test.YtijjjdljdjnbaaaOpenB
import Derived.Test.YtijjjdljdjnbaaaSxA
namespace Go.Proofs.Ytijjjdljdjnbaaa
set_option maxRecDepth 100000
set_option linter.unusedVariables false
set_option linter.unusedSimpArgs false
open Go.Sx

def blankC : Cell := ⟨32, 0, 0, 0⟩
/-- the cells that a patch begins with -/
def baseC (a : View) (r c : Int) : List Cell := if a.rows = r ∧ a.cols = c then a.cells else List.replicate (r * c).toNat blankC
/-- the runs from some cells to others: how many are skipped, and what comes there -/
def difR (k : Nat) : List Cell → List (Cell × Cell) → List (Nat × List Cell)
  | run, [] => if run = [] then [] else [(k, run)]
  | run, (x, y) :: t => if x = y then (if run = [] then difR (k + 1) [] t else (k, run) :: difR 1 [] t) else difR k (run ++ [y]) t
def encR (r : Nat × List Cell) : List Int := putL r.1 ++ (putL r.2.length ++ r.2.flatMap Cell.bytes)
/-- the patch from a view to another one -/
def difB (a b : View) : List Int := b.head ++ (difR 0 [] ((baseC a b.rows b.cols).zip b.cells)).flatMap encR
theorem mul_bound0 {a b : Int} (h : 0 ≤ a ∧ a ≤ 12 ∧ 0 ≤ b ∧ b ≤ 40) : 0 ≤ a * b ∧ a * b ≤ 480 :=
  ⟨Int.mul_nonneg h.1 h.2.2.1, by have := Int.mul_le_mul h.2.1 h.2.2.2 (by omega) (by omega : (0:Int) ≤ 12); omega⟩
theorem enc_one (c : Cell) : c.enc.all (·.oneCell') = true := rfl
theorem base_ok (E : Env) (a : View) (s : Value) (r c : Int) (h : a.has E [] s) (hl : a.cells.length ≤ 480) (hr : 0 ≤ r ∧ r ≤ 12 ∧ 0 ≤ c ∧ c ≤ 40) : Does Try.prog 58 #[a.val s, .int .i64 r, .int .i64 c] E [] fun v H' => ∃ (p : Option Addr) (m k : Nat), v = .slice p m k ∧ H' = [osl 55 4 (.slice p m k) (baseC a r c).length ((baseC a r c).flatMap Cell.enc)] := by
  unfold View.has at h
  refine Does.pure h.isSl fun hs => ?_
  obtain ⟨sa, sm, sc, rfl⟩ := hs
  have hm := mul_bound0 hr
  obtain ⟨q, hq⟩ := Int.eq_ofNat_of_zero_le hm.1
  have hw : IntKind.i64.wrap (r * c) = (q : Int) := by rw [w64 (by omega) (by omega), hq]
  have hrep : ∀ E' v, Sl E' [] 4 v 1 (Cell.enc blankC) → Does Try.prog 75 #[v, .int .i64 q] E' [] (fun r H' => H' = [osl 55 4 r q ((List.replicate q blankC).flatMap Cell.enc)] ∧ IsSl r) := by
    intro E' v hS
    rw [← rep_flat]
    exact repeatC_ok E' v _ q hS rfl (by omega)
  refine Does.go (args := [a.val (.slice sa sm sc), .int .i64 r, .int .i64 c]) _ _ Try.func58 rfl Try.ntmps58 rfl rfl ?_
  by_cases he : a.rows = r ∧ a.cols = c
  · have hb : baseC a r c = a.cells := by simp [baseC, he]
    obtain ⟨e1, e2⟩ := he
    rw [hb]
    refine Body.seq ?_
    refine Body.region ?_
    refine Ops.s (Stp.box (lk rfl) rfl (fun b3 => ?_)) rfl
    refine Ops.u (Dtu.asg (lk rfl)) rfl ?_
    refine Ops.nil ?_
    refine Then.next ?_
    refine Body.seq ?_
    refine Body.seq ?_
    refine Body.region ?_
    refine Ops.u (Dtu.fld fa24_0 (lk rfl)) rfl ?_
    refine Ops.d (Det.ld Try.isAgg3 (lk rfl) (Rd.ow 0 rfl rfl)) rfl ?_
    refine Ops.u (Dtu.mv (lk rfl)) rfl ?_
    refine Ops.u (Dtu.eql (lk rfl) (lk rfl)) rfl ?_
    refine Ops.u (Dtu.mv (lk rfl)) rfl ?_
    refine Ops.decP 11 rfl (fun _ => ?_) (fun hn => absurd (by first | omega | assumption | decide) hn)
    refine Ops.gu rfl rfl rfl (Dtu.fld fa24_1 (lk rfl)) rfl ?_
    refine Ops.gd rfl rfl rfl (Det.ld Try.isAgg3 (lk rfl) (Rd.ow 0 rfl rfl)) rfl ?_
    refine Ops.gu rfl rfl rfl (Dtu.mv (lk rfl)) rfl ?_
    refine Ops.gu rfl rfl rfl (Dtu.eql (lk rfl) (lk rfl)) rfl ?_
    refine Ops.u (Dtu.pickT (lk rfl) (lk rfl)) rfl ?_
    refine Ops.nil ?_
    refine Then.next ?_
    refine Body.condP (lk rfl) (fun _ => ?_) (fun hn => absurd (by first | omega | assumption | decide) hn)
    refine Body.seq ?_
    refine Body.region ?_
    refine Ops.u (Dtu.fld fa24_2 (lk rfl)) rfl ?_
    refine Ops.d (Det.ld Try.isAgg22 (lk rfl) (Rd.ow 0 rfl rfl)) rfl ?_
    refine Ops.s (Stp.call rfl Try.call99 (lks rfl) (fun E' le hat => cloneC_ok E' _ _ _ (Sl.mono (by assumption) le) (all_flat enc_one _) (by omega)) ?_) rfl
    rintro _ _ ⟨rfl, za19, zm19, zc19, rfl⟩
    refine Ops.u (Dtu.asg (lk rfl)) rfl ?_
    refine Ops.nil ?_
    refine Then.next ?_
    refine Body.ret ?_
    refine Then.ret ?_
    exact ⟨.inr rfl, _, pk [0] rfl, za19, zm19, zc19, rfl, rfl⟩
  · have hb : baseC a r c = List.replicate q blankC := by
      unfold baseC
      rw [if_neg he, hq]; simp
    rw [hb, List.length_replicate]
    refine Body.seq ?_
    refine Body.region ?_
    refine Ops.s (Stp.box (lk rfl) rfl (fun b3 => ?_)) rfl
    refine Ops.u (Dtu.asg (lk rfl)) rfl ?_
    refine Ops.nil ?_
    refine Then.next ?_
    refine Body.seq ?_
    refine Body.seq ?_
    refine Body.region ?_
    refine Ops.u (Dtu.fld fa24_0 (lk rfl)) rfl ?_
    refine Ops.d (Det.ld Try.isAgg3 (lk rfl) (Rd.ow 0 rfl rfl)) rfl ?_
    refine Ops.u (Dtu.mv (lk rfl)) rfl ?_
    refine Ops.u (Dtu.eql (lk rfl) (lk rfl)) rfl ?_
    refine Ops.u (Dtu.mv (lk rfl)) rfl ?_
    refine Ops.decP 11 rfl (fun c11 => ?_) (fun c11 => ?_)
    · refine Ops.gu rfl rfl rfl (Dtu.fld fa24_1 (lk rfl)) rfl ?_
      refine Ops.gd rfl rfl rfl (Det.ld Try.isAgg3 (lk rfl) (Rd.ow 0 rfl rfl)) rfl ?_
      refine Ops.gu rfl rfl rfl (Dtu.mv (lk rfl)) rfl ?_
      refine Ops.gu rfl rfl rfl (Dtu.eql (lk rfl) (lk rfl)) rfl ?_
      refine Ops.u (Dtu.pickT (lk rfl) (lk rfl)) rfl ?_
      refine Ops.nil ?_
      refine Then.next ?_
      refine Body.condP (lk rfl) (fun hy => absurd hy (by first | omega | assumption | decide)) (fun _ => ?_)
      refine Body.skip ?_
      refine Then.next ?_
      refine Body.seq ?_
      refine Body.region ?_
      refine Ops.s (Stp.call rfl Try.call103 (lks rfl) (fun E' le hat => blank_ok E') ?_) rfl
      rintro _ _ ⟨rfl, rfl⟩
      refine Ops.s (Stp.buildSliceO Try.underlying22 ty55 (by decide) (by decide) (lkp rfl) rfl rfl rfl (by decide) (fun v21 => ?_)) rfl
      refine Ops.u (Dtu.mv (lk rfl)) rfl ?_
      refine Ops.u (Dtu.mv (lk rfl)) rfl ?_
      refine Ops.u (Dtu.mul (lk rfl) (lk rfl) (by with_reducible assumption)) rfl ?_
      refine Ops.s (Stp.call rfl Try.call75 (lks rfl) (fun E' le hat => hrep E' _ (Sl.at (hat _ (.head _)))) ?_) rfl
      rintro _ _ ⟨rfl, za25, zm25, zc25, rfl⟩
      refine Ops.u (Dtu.asg (lk rfl)) rfl ?_
      refine Ops.nil ?_
      refine Then.next ?_
      refine Body.ret ?_
      (exact ⟨.inr rfl, _, pk [0] rfl, za25, zm25, zc25, rfl, rfl⟩)
    · refine Ops.gn rfl rfl rfl rfl rfl ?_
      refine Ops.gn rfl rfl rfl rfl rfl ?_
      refine Ops.gn rfl rfl rfl rfl rfl ?_
      refine Ops.gn rfl rfl rfl rfl rfl ?_
      refine Ops.u (Dtu.pickF (lk rfl) (lk rfl)) rfl ?_
      refine Ops.nil ?_
      refine Then.next ?_
      refine Body.condF (lk rfl) ?_
      refine Body.skip ?_
      refine Then.next ?_
      refine Body.seq ?_
      refine Body.region ?_
      refine Ops.s (Stp.call rfl Try.call103 (lks rfl) (fun E' le hat => blank_ok E') ?_) rfl
      rintro _ _ ⟨rfl, rfl⟩
      refine Ops.s (Stp.buildSliceO Try.underlying22 ty55 (by decide) (by decide) (lkp rfl) rfl rfl rfl (by decide) (fun v21 => ?_)) rfl
      refine Ops.u (Dtu.mv (lk rfl)) rfl ?_
      refine Ops.u (Dtu.mv (lk rfl)) rfl ?_
      refine Ops.u (Dtu.mul (lk rfl) (lk rfl) (by with_reducible assumption)) rfl ?_
      refine Ops.s (Stp.call rfl Try.call75 (lks rfl) (fun E' le hat => hrep E' _ (Sl.at (hat _ (.head _)))) ?_) rfl
      rintro _ _ ⟨rfl, za25, zm25, zc25, rfl⟩
      refine Ops.u (Dtu.asg (lk rfl)) rfl ?_
      refine Ops.nil ?_
      refine Then.next ?_
      refine Body.ret ?_
      (exact ⟨.inr rfl, _, pk [0] rfl, za25, zm25, zc25, rfl, rfl⟩)
end Go.Proofs.Ytijjjdljdjnbaaa
