/- Qg: PatA, PatB, PatC, PatD, PatE, PatF, PatG, PatH, PatI, PatJ, PatK, PatL. -/
import Derived.Test.YtijjjdljdjnbaaaRda
import Derived.Test.YtijjjdljdjnbaaaRdb
import Derived.Test.YtijjjdljdjnbaaaRdc
import Derived.Test.YtijjjdljdjnbaaaRdd
import Derived.Test.YtijjjdljdjnbaaaRde
import Derived.Test.YtijjjdljdjnbaaaRdf
section
/- Patches: what a patch is; the cells it begins with; numbers' bytes. -/
namespace Go.Proofs.Ytijjjdljdjnbaaa
set_option maxRecDepth 100000
set_option linter.unusedVariables false
set_option linter.unusedSimpArgs false
open Go.Sx

def blankC : Cell := ⟨32, 0, 0, 0⟩
/-- the cells that a patch begins with -/
def baseC (a : View) (r c : Int) : List Cell := if a.rows = r ∧ a.cols = c then a.cells else List.replicate (r * c).toNat blankC
/-- the runs from some cells to others: how many are skipped, and what comes there -/
def difR (k : Nat) : List Cell → List (Cell × Cell) → List (Nat × List Cell)
  | run, [] => if run = [] then [] else [(k, run)]
  | run, (x, y) :: t => if x = y then (if run = [] then difR (k + 1) [] t else (k, run) :: difR 1 [] t) else difR k (run ++ [y]) t
def encR (r : Nat × List Cell) : List Int := putL r.1 ++ (putL r.2.length ++ r.2.flatMap Cell.bytes)
/-- the patch from a view to another one -/
def difB (a b : View) : List Int := b.head ++ (difR 0 [] ((baseC a b.rows b.cols).zip b.cells)).flatMap encR
theorem mul_bound0 {a b : Int} (h : 0 ≤ a ∧ a ≤ 12 ∧ 0 ≤ b ∧ b ≤ 40) : 0 ≤ a * b ∧ a * b ≤ 480 :=
  ⟨Int.mul_nonneg h.1 h.2.2.1, by have := Int.mul_le_mul h.2.1 h.2.2.2 (by omega) (by omega : (0:Int) ≤ 12); omega⟩
theorem enc_one (c : Cell) : c.enc.all (·.oneCell') = true := rfl
theorem base_ok (E : Env) (a : View) (s : Value) (r c : Int) (h : a.has E [] s) (hl : a.cells.length ≤ 480) (hr : 0 ≤ r ∧ r ≤ 12 ∧ 0 ≤ c ∧ c ≤ 40) : Does Try.prog 58 #[a.val s, .int .i64 r, .int .i64 c] E [] fun v H' => ∃ (p : Option Addr) (m k : Nat), v = .slice p m k ∧ H' = [osl 55 4 (.slice p m k) (baseC a r c).length ((baseC a r c).flatMap Cell.enc)] := by
  unfold View.has at h
  refine Does.pure h.isSl fun hs => ?_
  obtain ⟨sa, sm, sc, rfl⟩ := hs
  have hm := mul_bound0 hr
  obtain ⟨q, hq⟩ := Int.eq_ofNat_of_zero_le hm.1
  have hw : IntKind.i64.wrap (r * c) = (q : Int) := by rw [w64 (by omega) (by omega), hq]
  have hrep : ∀ E' v, Sl E' [] 4 v 1 (Cell.enc blankC) → Does Try.prog 75 #[v, .int .i64 q] E' [] (fun r H' => H' = [osl 55 4 r q ((List.replicate q blankC).flatMap Cell.enc)] ∧ IsSl r) := by
    intro E' v hS
    rw [← rep_flat]
    exact repeatC_ok E' v _ q hS rfl (by omega)
  refine Does.go (args := [a.val (.slice sa sm sc), .int .i64 r, .int .i64 c]) _ _ Try.func58 rfl Try.ntmps58 rfl rfl ?_
  by_cases he : a.rows = r ∧ a.cols = c
  · have hb : baseC a r c = a.cells := by simp [baseC, he]
    obtain ⟨e1, e2⟩ := he
    rw [hb]
    refine Body.seq ?_
    refine Body.region ?_
    refine Ops.s (Stp.box (lk rfl) rfl (fun b3 => ?_)) rfl
    refine Ops.u (Dtu.asg (lk rfl)) rfl ?_
    refine Ops.nil ?_
    refine Then.next ?_
    refine Body.seq ?_
    refine Body.seq ?_
    refine Body.region ?_
    refine Ops.u (Dtu.fld fa24_0 (lk rfl)) rfl ?_
    refine Ops.d (Det.ld Try.isAgg3 (lk rfl) (Rd.ow 0 rfl rfl)) rfl ?_
    refine Ops.u (Dtu.mv (lk rfl)) rfl ?_
    refine Ops.u (Dtu.eql (lk rfl) (lk rfl)) rfl ?_
    refine Ops.u (Dtu.mv (lk rfl)) rfl ?_
    refine Ops.decP 11 rfl (fun _ => ?_) (fun hn => absurd (by first | omega | assumption | decide) hn)
    refine Ops.gu rfl rfl rfl (Dtu.fld fa24_1 (lk rfl)) rfl ?_
    refine Ops.gd rfl rfl rfl (Det.ld Try.isAgg3 (lk rfl) (Rd.ow 0 rfl rfl)) rfl ?_
    refine Ops.gu rfl rfl rfl (Dtu.mv (lk rfl)) rfl ?_
    refine Ops.gu rfl rfl rfl (Dtu.eql (lk rfl) (lk rfl)) rfl ?_
    refine Ops.u (Dtu.pickT (lk rfl) (lk rfl)) rfl ?_
    refine Ops.nil ?_
    refine Then.next ?_
    refine Body.condP (lk rfl) (fun _ => ?_) (fun hn => absurd (by first | omega | assumption | decide) hn)
    refine Body.seq ?_
    refine Body.region ?_
    refine Ops.u (Dtu.fld fa24_2 (lk rfl)) rfl ?_
    refine Ops.d (Det.ld Try.isAgg22 (lk rfl) (Rd.ow 0 rfl rfl)) rfl ?_
    refine Ops.s (Stp.call rfl Try.call99 (lks rfl) (fun E' le hat => cloneC_ok E' _ _ _ (Sl.mono (by assumption) le) (all_flat enc_one _) (by omega)) ?_) rfl
    rintro _ _ ⟨rfl, za19, zm19, zc19, rfl⟩
    refine Ops.u (Dtu.asg (lk rfl)) rfl ?_
    refine Ops.nil ?_
    refine Then.next ?_
    refine Body.ret ?_
    refine Then.ret ?_
    exact ⟨.inr rfl, _, pk [0] rfl, za19, zm19, zc19, rfl, rfl⟩
  · have hb : baseC a r c = List.replicate q blankC := by
      unfold baseC
      rw [if_neg he, hq]; simp
    rw [hb, List.length_replicate]
    refine Body.seq ?_
    refine Body.region ?_
    refine Ops.s (Stp.box (lk rfl) rfl (fun b3 => ?_)) rfl
    refine Ops.u (Dtu.asg (lk rfl)) rfl ?_
    refine Ops.nil ?_
    refine Then.next ?_
    refine Body.seq ?_
    refine Body.seq ?_
    refine Body.region ?_
    refine Ops.u (Dtu.fld fa24_0 (lk rfl)) rfl ?_
    refine Ops.d (Det.ld Try.isAgg3 (lk rfl) (Rd.ow 0 rfl rfl)) rfl ?_
    refine Ops.u (Dtu.mv (lk rfl)) rfl ?_
    refine Ops.u (Dtu.eql (lk rfl) (lk rfl)) rfl ?_
    refine Ops.u (Dtu.mv (lk rfl)) rfl ?_
    refine Ops.decP 11 rfl (fun c11 => ?_) (fun c11 => ?_)
    · refine Ops.gu rfl rfl rfl (Dtu.fld fa24_1 (lk rfl)) rfl ?_
      refine Ops.gd rfl rfl rfl (Det.ld Try.isAgg3 (lk rfl) (Rd.ow 0 rfl rfl)) rfl ?_
      refine Ops.gu rfl rfl rfl (Dtu.mv (lk rfl)) rfl ?_
      refine Ops.gu rfl rfl rfl (Dtu.eql (lk rfl) (lk rfl)) rfl ?_
      refine Ops.u (Dtu.pickT (lk rfl) (lk rfl)) rfl ?_
      refine Ops.nil ?_
      refine Then.next ?_
      refine Body.condP (lk rfl) (fun hy => absurd hy (by first | omega | assumption | decide)) (fun _ => ?_)
      refine Body.skip ?_
      refine Then.next ?_
      refine Body.seq ?_
      refine Body.region ?_
      refine Ops.s (Stp.call rfl Try.call103 (lks rfl) (fun E' le hat => blank_ok E') ?_) rfl
      rintro _ _ ⟨rfl, rfl⟩
      refine Ops.s (Stp.buildSliceO Try.underlying22 ty55 (by decide) (by decide) (lkp rfl) rfl rfl rfl (by decide) (fun v21 => ?_)) rfl
      refine Ops.u (Dtu.mv (lk rfl)) rfl ?_
      refine Ops.u (Dtu.mv (lk rfl)) rfl ?_
      refine Ops.u (Dtu.mul (lk rfl) (lk rfl) (by with_reducible assumption)) rfl ?_
      refine Ops.s (Stp.call rfl Try.call75 (lks rfl) (fun E' le hat => hrep E' _ (Sl.at (hat _ (.head _)))) ?_) rfl
      rintro _ _ ⟨rfl, za25, zm25, zc25, rfl⟩
      refine Ops.u (Dtu.asg (lk rfl)) rfl ?_
      refine Ops.nil ?_
      refine Then.next ?_
      refine Body.ret ?_
      (exact ⟨.inr rfl, _, pk [0] rfl, za25, zm25, zc25, rfl, rfl⟩)
    · refine Ops.gn rfl rfl rfl rfl rfl ?_
      refine Ops.gn rfl rfl rfl rfl rfl ?_
      refine Ops.gn rfl rfl rfl rfl rfl ?_
      refine Ops.gn rfl rfl rfl rfl rfl ?_
      refine Ops.u (Dtu.pickF (lk rfl) (lk rfl)) rfl ?_
      refine Ops.nil ?_
      refine Then.next ?_
      refine Body.condF (lk rfl) ?_
      refine Body.skip ?_
      refine Then.next ?_
      refine Body.seq ?_
      refine Body.region ?_
      refine Ops.s (Stp.call rfl Try.call103 (lks rfl) (fun E' le hat => blank_ok E') ?_) rfl
      rintro _ _ ⟨rfl, rfl⟩
      refine Ops.s (Stp.buildSliceO Try.underlying22 ty55 (by decide) (by decide) (lkp rfl) rfl rfl rfl (by decide) (fun v21 => ?_)) rfl
      refine Ops.u (Dtu.mv (lk rfl)) rfl ?_
      refine Ops.u (Dtu.mv (lk rfl)) rfl ?_
      refine Ops.u (Dtu.mul (lk rfl) (lk rfl) (by with_reducible assumption)) rfl ?_
      refine Ops.s (Stp.call rfl Try.call75 (lks rfl) (fun E' le hat => hrep E' _ (Sl.at (hat _ (.head _)))) ?_) rfl
      rintro _ _ ⟨rfl, za25, zm25, zc25, rfl⟩
      refine Ops.u (Dtu.asg (lk rfl)) rfl ?_
      refine Ops.nil ?_
      refine Then.next ?_
      refine Body.ret ?_
      (exact ⟨.inr rfl, _, pk [0] rfl, za25, zm25, zc25, rfl, rfl⟩)
end Go.Proofs.Ytijjjdljdjnbaaa
end
section
/- Patches: numbers' bytes, and the patch itself. -/
namespace Go.Proofs.Ytijjjdljdjnbaaa
set_option maxRecDepth 100000
set_option linter.unusedVariables false
set_option linter.unusedSimpArgs false
open Go.Sx

theorem numbers_ok (E : Env) (s : Value) (xs : List Int) (h : Sl E [] 1 s xs.length (xs.map (.int .i64))) (hx : ∀ x ∈ xs, 0 ≤ x ∧ x < 4611686018427387904) (hn : xs.length ≤ 100) : Does Try.prog 59 #[s] E [] fun r H' => ∃ s', s' = r ∧ H' = [osl 5 1 s' (xs.flatMap putL).length ((xs.flatMap putL).map (.int .u8))] := by
  refine Does.pure h.len fun hlen => ?_
  refine Does.go (args := [s]) _ _ Try.func59 rfl Try.ntmps59 rfl rfl ?_
  refine Body.seq ?_
  refine Body.region ?_
  refine Ops.u (Dtu.asg (lk rfl)) rfl ?_
  refine Ops.nil ?_
  refine Then.next ?_
  refine Body.seq ?_
  refine Body.region ?_
  refine Ops.u (Dtu.asg (lk rfl)) rfl ?_
  refine Ops.nil ?_
  refine Then.next ?_
  refine Body.seq ?_
  refine Body.seq ?_
  refine Body.region ?_
  refine Ops.u (Dtu.mv (lk rfl)) rfl ?_
  refine Ops.u (Dtu.lenS Try.underlying167 (Sl.up h) (lk rfl)) rfl ?_
  refine Ops.u (Dtu.mv (lk rfl)) rfl ?_
  refine Ops.nil ?_
  refine Then.next ?_
  refine Body.block ?_
  refine Body.conseq (H' := [osl 5 1 (.slice none 0 0) 0 []]) (fun w s => osl_nil s) ?_
  refine Body.loopF (γ := Nat × Value) rfl (fun g => [(10, .int .i64 g.1), (3, g.2)]) (fun g => [osl 5 1 g.2 ((xs.take g.1).flatMap putL).length (((xs.take g.1).flatMap putL).map (.int .u8))]) (fun g => g.1 ≤ xs.length ∧ ((xs.take g.1).flatMap putL).length ≤ 8 * g.1) (fun g => xs.length - g.1) (0, .slice none 0 0) (by simp) ⟨rfl, rfl, trivial⟩ rfl ?_
  rintro ⟨i, O⟩ u ⟨hi, hb⟩
  dsimp only at hi hb ⊢
  refine Body.seq ?_
  refine Body.region ?_
  refine Ops.u (Dtu.lss (lk rfl) (lk rfl)) rfl ?_
  refine Ops.nil ?_
  refine Then.next ?_
  refine Body.seq ?_
  refine Body.condP (lk rfl) (fun c11 => ?_) (fun c11 => ?_)
  · obtain ⟨x0, x1⟩ := hx xs[i]! (by rw [getElem!_pos xs i (by omega)]; exact List.getElem_mem _)
    refine Body.skip ?_
    refine Then.next ?_
    refine Body.seq ?_
    refine Body.block ?_
    refine Body.seq ?_
    refine Body.region ?_
    refine Ops.u (Dtu.ix (i := (i)) Try.underlying167 Try.sizeOf3 (Sl.up h) (lk rfl) (lk rfl) (by omega) (by omega)) rfl ?_
    refine Ops.d (Det.ld Try.isAgg3 (lk rfl) (Rd.sl (Sl.up h) (gm (by omega)))) rfl ?_
    refine Ops.u (Dtu.asg (lk rfl)) rfl ?_
    refine Ops.nil ?_
    refine Then.next ?_
    refine Body.seq ?_
    refine Body.region ?_
    refine Ops.u (Dtu.mv (lk rfl)) rfl ?_
    refine Ops.u (Dtu.cvt Try.underlying3 Try.underlying75 (lk rfl) (wu64 (by omega) (by omega))) rfl ?_
    refine Ops.s (Stp.call rfl Try.call73 (lks rfl) (fun E' le hat => put_fine E' _ (by omega) (by omega)) ?_) rfl
    rintro _ _ ⟨s17, hz17, rfl, rfl⟩
    refine Ops.u (Dtu.mv (lk rfl)) rfl ?_
    refine Ops.u (Dtu.ext (lk rfl) rfl) rfl ?_
    refine Ops.u (Dtu.ext (lk rfl) rfl) rfl ?_
    refine Ops.u (Dtu.asg (lk rfl)) rfl ?_
    refine Ops.u (Dtu.asg (lk rfl)) rfl ?_
    refine Ops.nil ?_
    refine Then.next ?_
    refine Body.region ?_
    refine Ops.u (Dtu.mv (lk rfl)) rfl ?_
    refine Ops.u (Dtu.mv (lk rfl)) rfl ?_
    refine Ops.s (Stp.append 1 Try.underlying32 ty5 rfl rfl (lk rfl) (lk rfl) (Sl.osl 0 rfl) (by first | rfl | exact all_map (fun _ => rfl) _ | exact all_flat (fun _ => rfl) _) (by omega) (by omega) (fun v22 => ?_)) rfl
    refine Ops.u (Dtu.asg (lk rfl)) rfl ?_
    refine Ops.nil ?_
    refine Blk.norm ?_
    refine Then.next ?_
    refine Body.region ?_
    refine Ops.u (Dtu.add (lk rfl) (lk rfl) (w64 (by omega) (by omega))) rfl ?_
    refine Ops.u (Dtu.mv (lk rfl)) rfl ?_
    refine Ops.nil ?_
    have e : (xs.take (i + 1)).flatMap putL = (xs.take i).flatMap putL ++ putL xs[i]! := by rw [take_snoc (by omega), List.flatMap_append]; simp
    refine Round.goK [1] (i + 1, v22) rfl rfl rfl ⟨int_eq (by simp), rfl, trivial⟩ rfl ?_ ⟨by dsimp only; omega, ?_⟩ (by dsimp only; omega)
    · dsimp only
      rw [e]; simp [putL_len]
    · dsimp only
      rw [e, List.length_append, putL_len]; omega
  · obtain rfl : i = xs.length := by omega
    rw [List.take_length]
    refine Body.exit ?_
    refine Then.exit ?_
    refine Round.exit ?_
    refine Blk.here ?_
    refine Then.next ?_
    refine Body.seq ?_
    refine Body.region ?_
    refine Ops.u (Dtu.mv (lk rfl)) rfl ?_
    refine Ops.u (Dtu.asg (lk rfl)) rfl ?_
    refine Ops.nil ?_
    refine Then.next ?_
    refine Body.ret ?_
    exact ⟨.inr rfl, _, pk [0] rfl, O, rfl, rfl⟩
end Go.Proofs.Ytijjjdljdjnbaaa
end
section
/- Patches: Diff. -/
namespace Go.Proofs.Ytijjjdljdjnbaaa
set_option maxRecDepth 100000
set_option linter.unusedVariables false
set_option linter.unusedSimpArgs false
open Go.Sx

theorem take_snocD {α : Type} [Inhabited α] {l : List α} {i : Nat} (h : i < l.length) : l.take (i + 1) = l.take i ++ [l[i]!] := by
  rw [List.take_succ_eq_append_getElem h, getElem!_pos l i h]
theorem difR_eq {P : List (Cell × Cell)} {i k : Nat} (h : i < P.length) (e : P[i]!.1 = P[i]!.2) : difR k [] (P.drop i) = difR (k + 1) [] (P.drop (i + 1)) := by
  rw [getElem!_pos P i h] at e
  rw [List.drop_eq_getElem_cons h]
  generalize P[i] = p at e
  obtain ⟨x, y⟩ := p
  simp only [difR]
  rw [if_pos e]; simp
theorem difR_ne {P : List (Cell × Cell)} {i k : Nat} {run : List Cell} (h : i < P.length) (e : ¬ P[i]!.1 = P[i]!.2) : difR k run (P.drop i) = difR k (run ++ [P[i]!.2]) (P.drop (i + 1)) := by
  rw [getElem!_pos P i h] at e ⊢
  rw [List.drop_eq_getElem_cons h]
  generalize P[i] = p at e
  obtain ⟨x, y⟩ := p
  simp only [difR]
  rw [if_neg e]
theorem difR_end {P : List (Cell × Cell)} {i k : Nat} {run : List Cell} (hr : run ≠ []) (h : i < P.length → P[i]!.1 = P[i]!.2) : difR k run (P.drop i) = (k, run) :: difR 1 [] (P.drop (i + 1)) := by
  by_cases hi : i < P.length
  · have e := h hi
    rw [getElem!_pos P i hi] at e
    rw [List.drop_eq_getElem_cons hi]
    generalize P[i] = p at e
    obtain ⟨x, y⟩ := p
    simp only [difR]
    rw [if_pos e, if_neg hr]
  · rw [List.drop_eq_nil_of_le (by omega), List.drop_eq_nil_of_le (by omega)]
    simp [difR, hr]
theorem zip_at {xs ys : List Cell} (h : xs.length = ys.length) {i : Nat} (hi : i < ys.length) : (xs.zip ys)[i]!.1 = xs[i]! ∧ (xs.zip ys)[i]!.2 = ys[i]! := by
  rw [getElem!_pos (xs.zip ys) i (by simp; omega), getElem!_pos xs i (by omega), getElem!_pos ys i hi]
  simp
theorem run_snoc {ys : List Cell} {i t : Nat} (h : i ≤ t) (ht : t < ys.length) : (ys.drop i).take (t + 1 - i) = (ys.drop i).take (t - i) ++ [ys[t]!] := by
  rw [show t + 1 - i = (t - i) + 1 by omega, take_snocD (by simp; omega), getElem!_pos (ys.drop i) (t - i) (by simp; omega), getElem!_pos ys t ht]
  simp only [List.getElem_drop]
  have : i + (t - i) = t := by omega
  simp only [this]
theorem diff_no (E : Env) (a b : View) (s t : Value) (ha : a.has E [] s) (hb : b.has E [] t) (h : (a.ok && b.ok) = false) : Does Try.prog 17 #[a.val s, b.val t] E [] fun r H' => r = .tuple #[.slice none 0 0, .int .i64 3] ∧ H' = [] := by
  unfold View.has at ha hb
  refine Does.pure ha.isSl fun hs => ?_
  obtain ⟨sa, sm, sc, rfl⟩ := hs
  refine Does.pure hb.isSl fun hs => ?_
  obtain ⟨ta, tm, tc, rfl⟩ := hs
  refine Does.go (args := [a.val _, b.val _]) _ _ Try.func17 rfl Try.ntmps17 rfl rfl ?_
  cases hk : a.ok with
  | false =>
    refine Body.seq ?_
    refine Body.region ?_
    refine Ops.s (Stp.box (lk rfl) rfl (fun b2 => ?_)) rfl
    refine Ops.s (Stp.box (lk rfl) rfl (fun b3 => ?_)) rfl
    refine Ops.u (Dtu.asg (lk rfl)) rfl ?_
    refine Ops.u (Dtu.asg (lk rfl)) rfl ?_
    refine Ops.nil ?_
    refine Then.next ?_
    refine Body.seq ?_
    refine Body.seq ?_
    refine Body.region ?_
    refine Ops.d (Det.lda Try.isAgg24 Try.sizeOf24 (lk rfl) (Rds.ow (m := 6) 1 rfl rfl) rfl) rfl ?_
    refine Ops.s (Stp.call rfl Try.call25 (lks rfl) (fun E' le hat => right_ok E' ⟨_, _, _, _, _, _⟩ _ (Sl.mono (by assumption) le)) ?_) rfl
    rintro _ _ ⟨rfl, rfl⟩
    refine Ops.u (Dtu.not (lk rfl)) rfl ?_
    refine Ops.u (Dtu.mv (lk rfl)) rfl ?_
    refine Ops.dec 18 rfl (fun _ => ?_) (fun hn => absurd hn (by simp [hk]))
    refine Ops.gn rfl rfl rfl rfl rfl ?_
    refine Ops.gn rfl rfl rfl rfl rfl ?_
    refine Ops.gn rfl rfl rfl rfl rfl ?_
    refine Ops.u (Dtu.pickT (lk rfl) (lk rfl)) rfl ?_
    refine Ops.nil ?_
    refine Then.next ?_
    refine Body.condT (lk rfl) ?_
    refine Body.seq ?_
    refine Body.region ?_
    refine Ops.u (Dtu.asg (lk rfl)) rfl ?_
    refine Ops.u (Dtu.asg (lk rfl)) rfl ?_
    refine Ops.nil ?_
    refine Then.next ?_
    refine Body.ret ?_
    refine Then.ret ?_
    exact ⟨.inr rfl, _, pk [] rfl, rfl, rfl⟩
  | true =>
    have hk2 : b.ok = false := by simpa [hk] using h
    refine Body.seq ?_
    refine Body.region ?_
    refine Ops.s (Stp.box (lk rfl) rfl (fun b2 => ?_)) rfl
    refine Ops.s (Stp.box (lk rfl) rfl (fun b3 => ?_)) rfl
    refine Ops.u (Dtu.asg (lk rfl)) rfl ?_
    refine Ops.u (Dtu.asg (lk rfl)) rfl ?_
    refine Ops.nil ?_
    refine Then.next ?_
    refine Body.seq ?_
    refine Body.seq ?_
    refine Body.region ?_
    refine Ops.d (Det.lda Try.isAgg24 Try.sizeOf24 (lk rfl) (Rds.ow (m := 6) 1 rfl rfl) rfl) rfl ?_
    refine Ops.s (Stp.call rfl Try.call25 (lks rfl) (fun E' le hat => right_ok E' ⟨_, _, _, _, _, _⟩ _ (Sl.mono (by assumption) le)) ?_) rfl
    rintro _ _ ⟨rfl, rfl⟩
    refine Ops.u (Dtu.not (lk rfl)) rfl ?_
    refine Ops.u (Dtu.mv (lk rfl)) rfl ?_
    refine Ops.dec 18 rfl (fun hn => absurd hn (by simp [hk])) (fun _ => ?_)
    refine Ops.gd rfl rfl rfl (Det.lda Try.isAgg24 Try.sizeOf24 (lk rfl) (Rds.ow (m := 6) 0 rfl rfl) rfl) rfl ?_
    refine Ops.gs rfl rfl rfl (Stp.call rfl Try.call25 (lks rfl) (fun E' le hat => right_ok E' ⟨_, _, _, _, _, _⟩ _ (Sl.mono (by assumption) le)) ?_) rfl
    rintro _ _ ⟨rfl, rfl⟩
    refine Ops.gu rfl rfl rfl (Dtu.not (lk rfl)) rfl ?_
    refine Ops.u (Dtu.pickF (lk rfl) (lk rfl)) rfl ?_
    refine Ops.nil ?_
    refine Then.next ?_
    refine Body.cond (lk rfl) (fun _ => ?_) (fun hn => absurd hn (by simp [hk2]))
    refine Body.seq ?_
    refine Body.region ?_
    refine Ops.u (Dtu.asg (lk rfl)) rfl ?_
    refine Ops.u (Dtu.asg (lk rfl)) rfl ?_
    refine Ops.nil ?_
    refine Then.next ?_
    refine Body.ret ?_
    refine Then.ret ?_
    exact ⟨.inr rfl, _, pk [] rfl, rfl, rfl⟩
end Go.Proofs.Ytijjjdljdjnbaaa
end
section
/- Patches: Diff of views that may be. -/
namespace Go.Proofs.Ytijjjdljdjnbaaa
set_option maxRecDepth 100000
set_option linter.unusedVariables false
set_option linter.unusedSimpArgs false
open Go.Sx

set_option maxHeartbeats 3200000 in
theorem diff_ok (E : Env) (a b : View) (s t : Value) (ha : a.has E [] s) (hb : b.has E [] t) (ka : a.ok = true) (kb : b.ok = true) : Does Try.prog 17 #[a.val s, b.val t] E [] fun r H' => ∃ s', r = .tuple #[s', .int .i64 0] ∧ H' = [osl 5 1 s' (difB a b).length ((difB a b).map (.int .u8))] := by
  unfold View.has at ha hb
  obtain ⟨fa, oa⟩ := View.ok_fits ka
  obtain ⟨fb, ob⟩ := View.ok_fits kb
  have hma := mul_bound fa.1
  have hla : a.cells.length ≤ 480 := by have := fa.2.2.2.2.2; omega
  obtain ⟨hrc, f1, f2, f3, f4, f5⟩ := fb
  have hmb := mul_bound hrc
  refine Does.pure ha.isSl fun hs => ?_
  obtain ⟨sa, sm, sc, rfl⟩ := hs
  refine Does.pure hb.isSl fun hs => ?_
  obtain ⟨ta, tm, tc, rfl⟩ := hs
  have hbl : (baseC a b.rows b.cols).length = b.cells.length := by
    unfold baseC
    split
    · rename_i h; have := fa.2.2.2.2.2; rw [h.1, h.2] at this; omega
    · rw [List.length_replicate]; omega
  have hbase := fun (E' : Env) (le : Env.Le E E') => base_ok E' a (.slice sa sm sc) b.rows b.cols (Sl.mono ha le) hla (by omega)
  have hD : difB a b = b.head ++ (difR 0 [] ((baseC a b.rows b.cols).zip b.cells)).flatMap encR := rfl
  generalize difB a b = D at *
  generalize hbc : baseC a b.rows b.cols = bc at *
  refine Does.go (args := [a.val _, b.val _]) _ _ Try.func17 rfl Try.ntmps17 rfl rfl ?_
  refine Body.seq ?_
  refine Body.region ?_
  refine Ops.s (Stp.box (lk rfl) rfl (fun b2 => ?_)) rfl
  refine Ops.s (Stp.box (lk rfl) rfl (fun b3 => ?_)) rfl
  refine Ops.u (Dtu.asg (lk rfl)) rfl ?_
  refine Ops.u (Dtu.asg (lk rfl)) rfl ?_
  refine Ops.nil ?_
  refine Then.next ?_
  refine Body.seq ?_
  refine Body.seq ?_
  refine Body.region ?_
  refine Ops.d (Det.lda Try.isAgg24 Try.sizeOf24 (lk rfl) (Rds.ow (m := 6) 1 rfl rfl) rfl) rfl ?_
  refine Ops.s (Stp.call rfl Try.call25 (lks rfl) (fun E' le hat => right_ok E' ⟨_, _, _, _, _, _⟩ _ (Sl.mono (by assumption) le)) ?_) rfl
  rintro _ _ ⟨rfl, rfl⟩
  refine Ops.u (Dtu.not (lk rfl)) rfl ?_
  refine Ops.u (Dtu.mv (lk rfl)) rfl ?_
  refine Ops.dec 18 rfl (fun hn => absurd hn (by simp [ka])) (fun _ => ?_)
  refine Ops.gd rfl rfl rfl (Det.lda Try.isAgg24 Try.sizeOf24 (lk rfl) (Rds.ow (m := 6) 0 rfl rfl) rfl) rfl ?_
  refine Ops.gs rfl rfl rfl (Stp.call rfl Try.call25 (lks rfl) (fun E' le hat => right_ok E' ⟨_, _, _, _, _, _⟩ _ (Sl.mono (by assumption) le)) ?_) rfl
  rintro _ _ ⟨rfl, rfl⟩
  refine Ops.gu rfl rfl rfl (Dtu.not (lk rfl)) rfl ?_
  refine Ops.u (Dtu.pickF (lk rfl) (lk rfl)) rfl ?_
  refine Ops.nil ?_
  refine Then.next ?_
  refine Body.cond (lk rfl) (fun hn => absurd hn (by simp [kb])) (fun _ => ?_)
  refine Body.skip ?_
  refine Then.next ?_
  refine Body.seq ?_
  refine Body.region ?_
  refine Ops.u (Dtu.fld fa24_0 (lk rfl)) rfl ?_
  refine Ops.d (Det.ld Try.isAgg3 (lk rfl) (Rd.ow 0 rfl rfl)) rfl ?_
  refine Ops.u (Dtu.cvt Try.underlying3 Try.underlying5 (lk rfl) (wu8 (by omega) (by omega))) rfl ?_
  refine Ops.u (Dtu.fld fa24_1 (lk rfl)) rfl ?_
  refine Ops.d (Det.ld Try.isAgg3 (lk rfl) (Rd.ow 0 rfl rfl)) rfl ?_
  refine Ops.u (Dtu.cvt Try.underlying3 Try.underlying5 (lk rfl) (wu8 (by omega) (by omega))) rfl ?_
  refine Ops.u (Dtu.fld fa24_3 (lk rfl)) rfl ?_
  refine Ops.d (Det.ld Try.isAgg3 (lk rfl) (Rd.ow 0 rfl rfl)) rfl ?_
  refine Ops.u (Dtu.cvt Try.underlying3 Try.underlying5 (lk rfl) (wu8 (by omega) (by omega))) rfl ?_
  refine Ops.u (Dtu.fld fa24_4 (lk rfl)) rfl ?_
  refine Ops.d (Det.ld Try.isAgg3 (lk rfl) (Rd.ow 0 rfl rfl)) rfl ?_
  refine Ops.u (Dtu.cvt Try.underlying3 Try.underlying5 (lk rfl) (wu8 (by omega) (by omega))) rfl ?_
  refine Ops.s (Stp.buildSliceO Try.underlying32 ty5 (by decide) (by decide) (lkp rfl) rfl rfl rfl (by decide) (fun v35 => ?_)) rfl
  refine Ops.u (Dtu.asg (lk rfl)) rfl ?_
  refine Ops.nil ?_
  refine Then.next ?_
  refine Body.seqJ (γ := Unit) rfl (fun _ => [(6, v35)]) (fun _ => [osl 5 1 v35 5 (b.head.map (.int .u8)), own b3 [.int .i64 b.rows, .int .i64 b.cols, .slice ta tm tc, .int .i64 b.row, .int .i64 b.col, .bool b.vis] 24, own b2 [.int .i64 a.rows, .int .i64 a.cols, .slice sa sm sc, .int .i64 a.row, .int .i64 a.col, .bool a.vis] 24]) (fun _ => True) ?_ ?_
  · refine Body.seq ?_
    refine Body.region ?_
    refine Ops.u (Dtu.fld fa24_5 (lk rfl)) rfl ?_
    refine Ops.d (Det.ld Try.isAgg4 (lk rfl) (Rd.ow 1 rfl rfl)) rfl ?_
    refine Ops.nil ?_
    refine Then.next ?_
    refine Body.cond (lk rfl) (fun c37 => ?_) (fun c37 => ?_)
    · refine Body.region ?_
      refine Ops.u (Dtu.mv (lk rfl)) rfl ?_
      refine Ops.u (Dtu.ix (i := 4) Try.underlying32 Try.sizeOf5 (Sl.osl 0 rfl) (lk rfl) (lk rfl) (by omega) (by omega)) rfl ?_
      refine Ops.e (Stp.storeS 0 (us := [_]) Try.sizeOf5 rfl (lk rfl) (lk rfl) rfl (by simp <;> omega) (by simp) rfl ?_)
      refine Ops.nil ?_
      exact Joint.goK [0, 0, 0] () rfl rfl rfl ⟨rfl, trivial⟩ rfl (by simp [View.head, c37]) trivial
    · refine Body.skip ?_
      exact Joint.goK [0, 0, 0] () rfl rfl rfl ⟨rfl, trivial⟩ rfl (by simp [View.head, c37]) trivial
  · intro _ u _
    have hb0 : b.head.length = 5 := rfl
    refine Body.seq ?_
    refine Body.region ?_
    refine Ops.d (Det.lda Try.isAgg24 Try.sizeOf24 (lk rfl) (Rds.ow (m := 6) 2 rfl rfl) rfl) rfl ?_
    refine Ops.u (Dtu.fld fa24_0 (lk rfl)) rfl ?_
    refine Ops.d (Det.ld Try.isAgg3 (lk rfl) (Rd.ow 1 rfl rfl)) rfl ?_
    refine Ops.u (Dtu.fld fa24_1 (lk rfl)) rfl ?_
    refine Ops.d (Det.ld Try.isAgg3 (lk rfl) (Rd.ow 1 rfl rfl)) rfl ?_
    refine Ops.s (Stp.call rfl Try.call58 (lks rfl) (fun E' le hat => hbase E' le) ?_) rfl
    rintro _ _ ⟨wa, wm, wc, rfl, rfl⟩
    refine Ops.u (Dtu.asg (lk rfl)) rfl ?_
    refine Ops.nil ?_
    refine Then.next ?_
    refine Body.seq ?_
    refine Body.region ?_
    refine Ops.u (Dtu.asg (lk rfl)) rfl ?_
    refine Ops.nil ?_
    refine Then.next ?_
    refine Body.seq ?_
    refine Body.seq ?_
    refine Body.region ?_
    refine Ops.u (Dtu.asg (lk rfl)) rfl ?_
    refine Ops.nil ?_
    refine Then.next ?_
    refine Body.block ?_
    have hP : (bc.zip b.cells).length = b.cells.length := by simp [hbl]
    have hPi : ∀ i, i < b.cells.length → (bc.zip b.cells)[i]!.1 = bc[i]! ∧ (bc.zip b.cells)[i]!.2 = b.cells[i]! := fun i hi => zip_at hbl hi
    generalize bc.zip b.cells = P at *
    generalize hys : b.cells = ys at *
    refine Body.loopF (γ := Nat × Nat × Value × List Int) rfl (fun g => [(9, .int .i64 g.1), (8, .int .i64 g.2.1), (6, g.2.2.1)])
      (fun g => [osl 55 4 (.slice wa wm wc) bc.length (bc.flatMap Cell.enc), osl 5 1 g.2.2.1 g.2.2.2.length (g.2.2.2.map (.int .u8)), own b3 [.int .i64 b.rows, .int .i64 b.cols, .slice ta tm tc, .int .i64 b.row, .int .i64 b.col, .bool b.vis] 24, own b2 [.int .i64 a.rows, .int .i64 a.cols, .slice sa sm sc, .int .i64 a.row, .int .i64 a.col, .bool a.vis] 24])
      (fun g => g.1 ≤ ys.length + 1 ∧ g.2.1 ≤ g.1 ∧ g.2.2.2 ++ (difR (g.1 - g.2.1) [] (P.drop g.1)).flatMap encR = D ∧ g.2.2.2.length ≤ 5 + 41 * g.1) (fun g => ys.length + 1 - g.1) (0, 0, v35, b.head) ⟨by simp, by simp, by simp [hD], by simp [hb0]⟩ ⟨rfl, rfl, rfl, trivial⟩ rfl ?_
    rintro ⟨i, l, O, bs⟩ u ⟨hi, hl, hbs, hn⟩
    dsimp only at hi hl hbs hn ⊢
    refine Body.seq ?_
    refine Body.seq ?_
    refine Body.region ?_
    refine Ops.u (Dtu.mv (lk rfl)) rfl ?_
    refine Ops.u (Dtu.mv (lk rfl)) rfl ?_
    refine Ops.u (Dtu.lenS Try.underlying22 (Sl.osl 0 rfl) (lk rfl)) rfl ?_
    refine Ops.u (Dtu.lss (lk rfl) (lk rfl)) rfl ?_
    refine Ops.nil ?_
    refine Then.next ?_
    refine Body.condP (lk rfl) (fun c49 => ?_) (fun c49 => ?_)
    · obtain ⟨p1, p2⟩ := hPi i (by omega)
      refine Body.skip ?_
      refine Then.next ?_
      refine Body.seq ?_
      refine Body.block ?_
      refine Body.seq ?_
      refine Body.seq ?_
      refine Body.draw mixed ?_
      refine AB.u 0 rfl (by decide +kernel) (Dtu.mv (lk rfl)) rfl ?_
      refine AB.u 1 rfl (by decide +kernel) (Dtu.mv (lk rfl)) rfl ?_
      refine AB.u 2 rfl (by decide +kernel) (Dtu.ix (i := (i)) Try.underlying22 Try.sizeOf55 (Sl.osl 0 rfl) (lk rfl) (lk rfl) (by omega) (by omega)) rfl ?_
      refine AB.d 3 rfl (by decide +kernel) rfl (Det.lda Try.isAgg55 Try.sizeOf55 (lk rfl) (Rds.sl (Sl.osl 0 rfl) (gf (sz := 4) (fun _ => rfl) (by omega))) rfl) rfl ?_
      refine AB.u 4 rfl (by decide +kernel) (Dtu.fld fa24_2 (lk rfl)) rfl ?_
      refine AB.d 5 rfl (by decide +kernel) rfl (Det.ld Try.isAgg22 (lk rfl) (Rd.ow 2 rfl rfl)) rfl ?_
      refine AB.u 6 rfl (by decide +kernel) (Dtu.mv (lk rfl)) rfl ?_
      refine AB.u 7 rfl (by decide +kernel) (Dtu.ix (i := (i)) Try.underlying22 Try.sizeOf55 (Sl.up hb) (lk rfl) (lk rfl) (by omega) (by omega)) rfl ?_
      refine AB.d 8 rfl (by decide +kernel) rfl (Det.lda Try.isAgg55 Try.sizeOf55 (lk rfl) (Rds.sl (Sl.up hb) (gf (sz := 4) (fun _ => rfl) (by omega))) rfl) rfl ?_
      refine AB.u 9 rfl (by decide +kernel) (Dtu.eqS eqGuard55 (eq55 _ _) (lk rfl) (lk rfl)) rfl ?_
      refine AB.done (by decide +kernel) ?_
      refine Then.next ?_
      refine Body.condP (lk rfl) (fun c61 => ?_) (fun c61 => ?_)
      · refine Body.exit ?_
        refine Then.exit ?_
        refine Blk.here ?_
        refine Then.next ?_
        refine Body.region ?_
        refine Ops.u (Dtu.mv (lk rfl)) rfl ?_
        refine Ops.u (Dtu.add (lk rfl) (lk rfl) (w64 (by omega) (by omega))) rfl ?_
        refine Ops.u (Dtu.asg (lk rfl)) rfl ?_
        refine Ops.nil ?_
        refine Round.goK [0, 0, 0, 0] (i + 1, l, O, bs) rfl rfl rfl ⟨int_eq (by simp), rfl, rfl, trivial⟩ rfl rfl ⟨by dsimp only; omega, by dsimp only; omega, ?_, by dsimp only; omega⟩ (by dsimp only; omega)
        dsimp only
        rw [← hbs, difR_eq (P := P) (i := i) (by omega) (by rw [p1, p2]; simpa using c61), show i + 1 - l = i - l + 1 by omega]
      · have hne : ¬ P[i]!.1 = P[i]!.2 := by rw [p1, p2]; simpa using c61
        refine Body.skip ?_
        refine Then.next ?_
        refine Body.seq ?_
        refine Body.region ?_
        refine Ops.u (Dtu.mv (lk rfl)) rfl ?_
        refine Ops.u (Dtu.asg (lk rfl)) rfl ?_
        refine Ops.nil ?_
        refine Then.next ?_
        refine Body.seqJ (γ := Nat) rfl (fun g => [(10, .int .i64 g)]) (fun _ => [osl 55 4 (.slice wa wm wc) bc.length (bc.flatMap Cell.enc), osl 5 1 O bs.length (bs.map (.int .u8)), own b3 [.int .i64 b.rows, .int .i64 b.cols, .slice ta tm tc, .int .i64 b.row, .int .i64 b.col, .bool b.vis] 24, own b2 [.int .i64 a.rows, .int .i64 a.cols, .slice sa sm sc, .int .i64 a.row, .int .i64 a.col, .bool a.vis] 24])
          (fun g => i < g ∧ g ≤ ys.length ∧ difR (i - l) [] (P.drop i) = (i - l, (ys.drop i).take (g - i)) :: difR 1 [] (P.drop (g + 1))) ?_ ?_
        · refine Body.block ?_
          refine Body.loopF (γ := Nat) rfl (fun g => [(10, .int .i64 g)]) (fun _ => [osl 55 4 (.slice wa wm wc) bc.length (bc.flatMap Cell.enc), osl 5 1 O bs.length (bs.map (.int .u8)), own b3 [.int .i64 b.rows, .int .i64 b.cols, .slice ta tm tc, .int .i64 b.row, .int .i64 b.col, .bool b.vis] 24, own b2 [.int .i64 a.rows, .int .i64 a.cols, .slice sa sm sc, .int .i64 a.row, .int .i64 a.col, .bool a.vis] 24])
            (fun g => i ≤ g ∧ g ≤ ys.length ∧ difR (i - l) [] (P.drop i) = difR (i - l) ((ys.drop i).take (g - i)) (P.drop g)) (fun g => ys.length - g) i ⟨by omega, by omega, by simp⟩ ⟨rfl, trivial⟩ rfl ?_
          rintro q u2 ⟨hq, hqn, hr⟩
          refine Body.seq ?_
          refine Body.seq ?_
          refine Body.draw mixed ?_
          refine AB.u 0 rfl (by decide +kernel) (Dtu.mv (lk rfl)) rfl ?_
          refine AB.u 1 rfl (by decide +kernel) (Dtu.mv (lk rfl)) rfl ?_
          refine AB.u 2 rfl (by decide +kernel) (Dtu.lenS Try.underlying22 (Sl.osl 0 rfl) (lk rfl)) rfl ?_
          refine AB.u 3 rfl (by decide +kernel) (Dtu.lss (lk rfl) (lk rfl)) rfl ?_
          refine AB.u 4 rfl (by decide +kernel) (Dtu.mv (lk rfl)) rfl ?_
          refine AB.decP 67 rfl (fun c67 => ?_) (fun c67 => ?_)
          · obtain ⟨p3, p4⟩ := hPi q (by omega)
            refine AB.gu 5 rfl (by decide +kernel) rfl rfl rfl (Dtu.mv (lk rfl)) rfl ?_
            refine AB.gu 6 rfl (by decide +kernel) rfl rfl rfl (Dtu.mv (lk rfl)) rfl ?_
            refine AB.gu 7 rfl (by decide +kernel) rfl rfl rfl (Dtu.ix (i := (q)) Try.underlying22 Try.sizeOf55 (Sl.osl 0 rfl) (lk rfl) (lk rfl) (by omega) (by omega)) rfl ?_
            refine AB.gd 8 rfl (by decide +kernel) rfl rfl rfl rfl (Det.lda Try.isAgg55 Try.sizeOf55 (lk rfl) (Rds.sl (Sl.osl 0 rfl) (gf (sz := 4) (fun _ => rfl) (by omega))) rfl) rfl ?_
            refine AB.gu 9 rfl (by decide +kernel) rfl rfl rfl (Dtu.fld fa24_2 (lk rfl)) rfl ?_
            refine AB.gd 10 rfl (by decide +kernel) rfl rfl rfl rfl (Det.ld Try.isAgg22 (lk rfl) (Rd.ow 2 rfl rfl)) rfl ?_
            refine AB.gu 11 rfl (by decide +kernel) rfl rfl rfl (Dtu.mv (lk rfl)) rfl ?_
            refine AB.gu 12 rfl (by decide +kernel) rfl rfl rfl (Dtu.ix (i := (q)) Try.underlying22 Try.sizeOf55 (Sl.up hb) (lk rfl) (lk rfl) (by omega) (by omega)) rfl ?_
            refine AB.gd 13 rfl (by decide +kernel) rfl rfl rfl rfl (Det.lda Try.isAgg55 Try.sizeOf55 (lk rfl) (Rds.sl (Sl.up hb) (gf (sz := 4) (fun _ => rfl) (by omega))) rfl) rfl ?_
            refine AB.gu 14 rfl (by decide +kernel) rfl rfl rfl (Dtu.neS eqGuard55 (eq55 _ _) (lk rfl) (lk rfl)) rfl ?_
            refine AB.u 15 rfl (by decide +kernel) (Dtu.pickT (lk rfl) (lk rfl)) rfl ?_
            refine AB.done (by decide +kernel) ?_
            refine Then.next ?_
            refine Body.cond (lk rfl) (fun c78 => ?_) (fun c78 => ?_)
            · refine Body.skip ?_
              refine Then.next ?_
              refine Body.block ?_
              refine Body.region ?_
              refine Ops.u (Dtu.mv (lk rfl)) rfl ?_
              refine Ops.u (Dtu.add (lk rfl) (lk rfl) (w64 (by omega) (by omega))) rfl ?_
              refine Ops.u (Dtu.asg (lk rfl)) rfl ?_
              refine Ops.nil ?_
              refine Blk.norm ?_
              have hne2 : ¬ P[q]!.1 = P[q]!.2 := by rw [p3, p4]; simpa using c78
              refine Round.goF (q + 1) rfl rfl rfl ⟨int_eq (by simp), trivial⟩ rfl ⟨by omega, by omega, ?_⟩ (by omega)
              rw [hr, difR_ne (P := P) (i := q) (by omega) hne2, p4, run_snoc hq (by omega)]
            · refine Body.exit ?_
              refine Then.exit ?_
              refine Round.exit ?_
              refine Blk.here ?_
              have heq2 : P[q]!.1 = P[q]!.2 := by rw [p3, p4]; simpa using c78
              have hiq : i < q := by
                rcases Nat.lt_or_eq_of_le hq with h | h
                · exact h
                · subst h; exact absurd heq2 hne
              refine Joint.goK [0, 0, 0, 0] q rfl rfl rfl ⟨rfl, trivial⟩ rfl rfl ⟨hiq, hqn, ?_⟩
              rw [hr, difR_end (P := P) (i := q) (fun h => by have := congrArg List.length h; simp at this; omega) (fun _ => heq2)]
          · refine AB.gn 5 rfl (by decide +kernel) rfl rfl rfl rfl rfl ?_
            refine AB.gn 6 rfl (by decide +kernel) rfl rfl rfl rfl rfl ?_
            refine AB.gn 7 rfl (by decide +kernel) rfl rfl rfl rfl rfl ?_
            refine AB.gn 8 rfl (by decide +kernel) rfl rfl rfl rfl rfl ?_
            refine AB.gn 9 rfl (by decide +kernel) rfl rfl rfl rfl rfl ?_
            refine AB.gn 10 rfl (by decide +kernel) rfl rfl rfl rfl rfl ?_
            refine AB.gn 11 rfl (by decide +kernel) rfl rfl rfl rfl rfl ?_
            refine AB.gn 12 rfl (by decide +kernel) rfl rfl rfl rfl rfl ?_
            refine AB.gn 13 rfl (by decide +kernel) rfl rfl rfl rfl rfl ?_
            refine AB.gn 14 rfl (by decide +kernel) rfl rfl rfl rfl rfl ?_
            refine AB.u 15 rfl (by decide +kernel) (Dtu.pickF (lk rfl) (lk rfl)) rfl ?_
            refine AB.done (by decide +kernel) ?_
            refine Then.next ?_
            refine Body.condF (lk rfl) ?_
            refine Body.exit ?_
            refine Then.exit ?_
            refine Round.exit ?_
            refine Blk.here ?_
            have hiq : i < q := by omega
            refine Joint.goK [0, 0, 0, 0] q rfl rfl rfl ⟨rfl, trivial⟩ rfl rfl ⟨hiq, hqn, ?_⟩
            rw [hr, difR_end (P := P) (i := q) (fun h => by have := congrArg List.length h; simp at this; omega) (fun h => by omega)]
        · rintro q u2 ⟨hq, hqn, hr⟩
          have hz1 := sizeS_le ((i : Int) - l)
          have hz2 := sizeS_le ((q : Int) - i)
          have hnum : ∀ E' v, Sl E' [] 1 v 2 [.int .i64 ((i : Int) - l), .int .i64 ((q : Int) - i)] → Does Try.prog 59 #[v] E' [] fun r H' => ∃ s', s' = r ∧ H' = [osl 5 1 s' ([(i : Int) - l, (q : Int) - i].flatMap putL).length (([(i : Int) - l, (q : Int) - i].flatMap putL).map (.int .u8))] :=
            fun E' v h => numbers_ok E' v [(i : Int) - l, (q : Int) - i] h (by simp; omega) (by simp)
          have hN : [(i : Int) - l, (q : Int) - i].flatMap putL = putL ((i - l : Nat) : Int) ++ putL ((q - i : Nat) : Int) := by
            rw [show ((i - l : Nat) : Int) = (i : Int) - l by omega, show ((q - i : Nat) : Int) = (q : Int) - i by omega]; simp
          have hNl : ([(i : Int) - l, (q : Int) - i].flatMap putL).length ≤ 16 := by simp [putL_len]; omega
          generalize [(i : Int) - l, (q : Int) - i].flatMap putL = N at *
          have hs5 := Sl.subF (enc := Cell.enc) (sz := 4) (fun c => rfl) hb i q (by omega) hqn
          have hrl : ((ys.drop i).take (q - i)).length = q - i := by simp; omega
          have hrok : ∀ c ∈ (ys.drop i).take (q - i), c.ok = true := fun c hc => ob c (List.mem_of_mem_drop (List.mem_of_mem_take hc))
          generalize (ys.drop i).take (q - i) = R at *
          refine Body.seq ?_
          refine Body.region ?_
          refine Ops.u (Dtu.mv (lk rfl)) rfl ?_
          refine Ops.u (Dtu.mv (lk rfl)) rfl ?_
          refine Ops.u (Dtu.mv (lk rfl)) rfl ?_
          refine Ops.u (Dtu.sub (lk rfl) (lk rfl) (w64 (by omega) (by omega))) rfl ?_
          refine Ops.u (Dtu.mv (lk rfl)) rfl ?_
          refine Ops.u (Dtu.mv (lk rfl)) rfl ?_
          refine Ops.u (Dtu.sub (lk rfl) (lk rfl) (w64 (by omega) (by omega))) rfl ?_
          refine Ops.s (Stp.buildSliceO Try.underlying167 ty3 (by decide) (by decide) (lkp rfl) rfl rfl rfl (by decide) (fun v88 => ?_)) rfl
          refine Ops.s (Stp.call rfl Try.call59 (lks rfl) (fun E' le hat => hnum E' _ (Sl.at (hat _ (.head _)))) ?_) rfl
          rintro _ _ ⟨n89, rfl, rfl⟩
          refine Ops.s (Stp.append 3 Try.underlying32 ty5 rfl rfl (lk rfl) (lk rfl) (Sl.osl 0 rfl) (by first | rfl | exact all_map (fun _ => rfl) _ | exact all_flat (fun _ => rfl) _) (by omega) (by omega) (fun v90 => ?_)) rfl
          refine Ops.u (Dtu.asg (lk rfl)) rfl ?_
          refine Ops.nil ?_
          refine Then.next ?_
          refine Body.seq ?_
          refine Body.seq ?_
          refine Body.region ?_
          refine Ops.u (Dtu.fld fa24_2 (lk rfl)) rfl ?_
          refine Ops.d (Det.ld Try.isAgg22 (lk rfl) (Rd.ow 4 rfl rfl)) rfl ?_
          refine Ops.u (Dtu.mv (lk rfl)) rfl ?_
          refine Ops.u (Dtu.mv (lk rfl)) rfl ?_
          refine Ops.u (Dtu.slLH (i) (q) Try.underlying22 Try.sizeOf55 (Sl.up hb) (lk rfl) (lk rfl) (lk rfl) (by omega) (by omega) (by omega) (by omega)) rfl ?_
          refine Ops.u (Dtu.lenS Try.underlying22 (Sl.up hs5) (lk rfl)) rfl ?_
          refine Ops.u (Dtu.mv (lk rfl)) rfl ?_
          refine Ops.nil ?_
          refine Then.next ?_
          refine Body.block ?_
          refine Body.loopF (γ := Nat × Value × List Int) rfl (fun g => [(97, .int .i64 g.1), (6, g.2.1)])
            (fun g => [osl 5 1 n89 N.length (N.map (.int .u8)), osl 3 1 v88 2 [.int .i64 ((i : Int) - l), .int .i64 ((q : Int) - i)], osl 55 4 (.slice wa wm wc) bc.length (bc.flatMap Cell.enc), osl 5 1 g.2.1 g.2.2.length (g.2.2.map (.int .u8)), own b3 [.int .i64 b.rows, .int .i64 b.cols, .slice ta tm tc, .int .i64 b.row, .int .i64 b.col, .bool b.vis] 24, own b2 [.int .i64 a.rows, .int .i64 a.cols, .slice sa sm sc, .int .i64 a.row, .int .i64 a.col, .bool a.vis] 24])
            (fun g => g.1 ≤ q - i ∧ g.2.2 = bs ++ N ++ (R.take g.1).flatMap Cell.bytes ∧ g.2.2.length ≤ 21 + 41 * i + 25 * g.1) (fun g => q - i - g.1) (0, v90, bs ++ N) ⟨by simp, by simp, by simp; omega⟩ ⟨rfl, rfl, trivial⟩ (by simp) ?_
          rintro ⟨j, O2, bs2⟩ u3 ⟨hj, he, hl2⟩
          dsimp only at hj he hl2 ⊢
          refine Body.seq ?_
          refine Body.region ?_
          refine Ops.u (Dtu.lss (lk rfl) (lk rfl)) rfl ?_
          refine Ops.nil ?_
          refine Then.next ?_
          refine Body.seq ?_
          refine Body.condP (lk rfl) (fun c98 => ?_) (fun c98 => ?_)
          · have hcok : R[j]!.ok = true := by rw [getElem!_pos R j (by omega)]; exact hrok _ (List.getElem_mem _)
            have hbl := Cell.bytes_len R[j]!
            refine Body.skip ?_
            refine Then.next ?_
            refine Body.seq ?_
            refine Body.block ?_
            refine Body.seq ?_
            refine Body.region ?_
            refine Ops.u (Dtu.ix (i := (j)) Try.underlying22 Try.sizeOf55 (Sl.up hs5) (lk rfl) (lk rfl) (by omega) (by omega)) rfl ?_
            refine Ops.d (Det.lda Try.isAgg55 Try.sizeOf55 (lk rfl) (Rds.sl (Sl.up hs5) (gf (sz := 4) (fun _ => rfl) (by omega))) rfl) rfl ?_
            refine Ops.s (Stp.alloc ty55 (fun b12 => ?_)) rfl
            refine Ops.e (Stp.store 0 Try.sizeOf55 (lk rfl) (lk rfl) rfl rfl rfl rfl rfl rfl rfl ?_)
            refine Ops.nil ?_
            refine Then.next ?_
            refine Body.seq ?_
            refine Body.region ?_
            refine Ops.d (Det.lda Try.isAgg55 Try.sizeOf55 (lk rfl) (Rds.ow (m := 4) 0 rfl rfl) rfl) rfl ?_
            refine Ops.s (Stp.call rfl Try.call33 (lks rfl) (fun E' le hat => putCell_ok E' _ (by assumption)) ?_) rfl
            rintro _ _ ⟨s103, hz103, rfl, rfl⟩
            refine Ops.u (Dtu.mv (lk rfl)) rfl ?_
            refine Ops.u (Dtu.ext (lk rfl) rfl) rfl ?_
            refine Ops.u (Dtu.ext (lk rfl) rfl) rfl ?_
            refine Ops.u (Dtu.asg (lk rfl)) rfl ?_
            refine Ops.u (Dtu.asg (lk rfl)) rfl ?_
            refine Ops.nil ?_
            refine Then.next ?_
            refine Body.seq ?_
            refine Body.seq ?_
            refine Body.region ?_
            refine Ops.u (Dtu.mv (lk rfl)) rfl ?_
            refine Ops.u (Dtu.neq (lk rfl) (lk rfl)) rfl ?_
            refine Ops.nil ?_
            refine Then.next ?_
            refine Body.condP (lk rfl) (fun hy => absurd hy (by first | omega | assumption | decide)) (fun _ => ?_)
            refine Body.skip ?_
            refine Then.next ?_
            refine Body.region ?_
            refine Ops.u (Dtu.mv (lk rfl)) rfl ?_
            refine Ops.u (Dtu.mv (lk rfl)) rfl ?_
            refine Ops.s (Stp.append 5 Try.underlying32 ty5 rfl rfl (lk rfl) (lk rfl) (Sl.osl 0 rfl) (by first | rfl | exact all_map (fun _ => rfl) _ | exact all_flat (fun _ => rfl) _) (by omega) (by omega) (fun v111 => ?_)) rfl
            refine Ops.u (Dtu.asg (lk rfl)) rfl ?_
            refine Ops.nil ?_
            refine Blk.norm ?_
            refine Then.next ?_
            refine Body.region ?_
            refine Ops.u (Dtu.add (lk rfl) (lk rfl) (w64 (by omega) (by omega))) rfl ?_
            refine Ops.u (Dtu.mv (lk rfl)) rfl ?_
            refine Ops.nil ?_
            refine Round.goK [2, 2, 2, 2, 2, 2] (j + 1, v111, bs2 ++ R[j]!.bytes) rfl rfl rfl ⟨int_eq (by simp), rfl, trivial⟩ rfl ?_ ⟨by dsimp only; omega, ?_, ?_⟩ (by dsimp only; omega)
            · simp [Cell.bytes_len]
            · dsimp only
              rw [he, take_snocD (by omega), List.flatMap_append]; simp
            · have := Cell.size_13 hcok
              simp only [List.length_append]; omega
          · obtain rfl : j = q - i := by omega
            have hT : R.take (q - i) = R := List.take_of_length_le (by omega)
            rw [hT] at he
            refine Body.exit ?_
            refine Then.exit ?_
            refine Round.exit ?_
            refine Blk.here ?_
            refine Then.next ?_
            refine Body.region ?_
            refine Ops.u (Dtu.mv (lk rfl)) rfl ?_
            refine Ops.u (Dtu.mv (lk rfl)) rfl ?_
            refine Ops.u (Dtu.asg (lk rfl)) rfl ?_
            refine Ops.u (Dtu.asg (lk rfl)) rfl ?_
            refine Ops.nil ?_
            refine Blk.norm ?_
            refine Then.next ?_
            refine Body.region ?_
            refine Ops.u (Dtu.mv (lk rfl)) rfl ?_
            refine Ops.u (Dtu.add (lk rfl) (lk rfl) (w64 (by omega) (by omega))) rfl ?_
            refine Ops.u (Dtu.asg (lk rfl)) rfl ?_
            refine Ops.nil ?_
            refine Round.goK [2, 2, 2, 2] (q + 1, q, O2, bs2) rfl rfl rfl ⟨int_eq (by simp), rfl, rfl, trivial⟩ rfl rfl ⟨by dsimp only; omega, by dsimp only; omega, ?_, by dsimp only; omega⟩ (by dsimp only; omega)
            dsimp only
            rw [show q + 1 - q = 1 by omega, ← hbs, hr, he, hN]
            simp [encR, hrl]
    · have hD2 : bs = D := by
        rw [← hbs, List.drop_eq_nil_of_le (by omega)]
        simp [difR]
      subst hD2
      refine Body.exit ?_
      refine Then.exit ?_
      refine Round.exit ?_
      refine Blk.here ?_
      refine Then.next ?_
      refine Body.seq ?_
      refine Body.region ?_
      refine Ops.u (Dtu.mv (lk rfl)) rfl ?_
      refine Ops.u (Dtu.asg (lk rfl)) rfl ?_
      refine Ops.u (Dtu.asg (lk rfl)) rfl ?_
      refine Ops.nil ?_
      refine Then.next ?_
      refine Body.ret ?_
      exact ⟨.inr rfl, _, pk [1] rfl, O, rfl, rfl⟩
end Go.Proofs.Ytijjjdljdjnbaaa
end
section
/- Patches: the runs that bytes have. -/
namespace Go.Proofs.Ytijjjdljdjnbaaa
set_option maxRecDepth 100000
set_option linter.unusedVariables false
set_option linter.unusedSimpArgs false
open Go.Sx

abbrev Run := Int × List Cell
/-- so many cells, from a place on -/
def readN (bs : List Int) : Nat → List Cell → Int → Option (List Cell × Int)
  | 0, cs, a => some (cs, a)
  | k + 1, cs, a => if (cellR bs a).2.2 ≠ 0 then none else readN bs k (cs ++ [(cellR bs a).1]) (cellR bs a).2.1
/-- the runs from a place on -/
def readRs (bs : List Int) : Nat → List Run → Int → Option (List Run)
  | 0, _, _ => none
  | k + 1, rs, a =>
    if a < bs.length then
      if (getS bs a).2.2 ≠ 0 then none
      else if (getS bs (getS bs a).2.1).2.2 ≠ 0 ∨ (getS bs (getS bs a).2.1).1 = 0 then none
      else match readN bs (getS bs (getS bs a).2.1).1.toNat [] (getS bs (getS bs a).2.1).2.1 with
        | none => none
        | some (cs, a') => readRs bs k (rs ++ [(min (getS bs a).1 24000, cs)]) a'
    else some rs
/-- the runs that bytes have -/
def runsP (bs : List Int) : Option (List Run) := if bs.length < 5 then none else readRs bs (bs.length + 1) [] 5
structure RunV where
  k : Int
  a : Option Addr
  m : Nat
  c : Nat
  cells : List Cell
  deriving Inhabited
def RunV.enc (r : RunV) : List Value := [.int .i64 r.k, .slice r.a r.m r.c]
def RunV.own (r : RunV) : HProp := osl 55 4 (.slice r.a r.m r.c) r.cells.length (r.cells.flatMap Cell.enc)
def RunV.val (r : RunV) : Run := (r.k, r.cells)
set_option maxHeartbeats 3200000 in
theorem runs_ok (E : Env) (b : Value) (bs : List Int) (h : Sl E [] 1 b bs.length (bs.map (.int .u8))) (hb : Byt bs) (hmax : bs.length ≤ 100000) : Does Try.prog 64 #[b] E [] fun r H' =>
    match runsP bs with
    | some rs => ∃ (z1 : Option Addr) (z2 z3 : Nat) (L : List RunV), r = .tuple #[.slice z1 z2 z3, .bool true] ∧ H' = [osl 115 2 (.slice z1 z2 z3) L.length (L.flatMap RunV.enc), many (L.map RunV.own)] ∧ L.map RunV.val = rs
    | none => r = .tuple #[.slice none 0 0, .bool false] ∧ H' = [] := by
  refine Does.pure h.len fun hlen => ?_
  refine Does.go (args := [b]) _ _ Try.func64 rfl Try.ntmps64 rfl rfl ?_
  by_cases h5 : bs.length < 5
  · have hn : runsP bs = none := by unfold runsP; rw [if_pos h5]
    rw [hn]
    refine Body.seq ?_
    refine Body.region ?_
    refine Ops.u (Dtu.asg (lk rfl)) rfl ?_
    refine Ops.u (Dtu.asg (lk rfl)) rfl ?_
    refine Ops.nil ?_
    refine Then.next ?_
    refine Body.seq ?_
    refine Body.region ?_
    refine Ops.u (Dtu.asg (lk rfl)) rfl ?_
    refine Ops.nil ?_
    refine Then.next ?_
    refine Body.seq ?_
    refine Body.region ?_
    refine Ops.u (Dtu.asg (lk rfl)) rfl ?_
    refine Ops.nil ?_
    refine Then.next ?_
    refine Body.seq ?_
    refine Body.block ?_
    refine Body.loopF (γ := Unit) rfl (fun _ => [(5, .int .i64 5), (4, .slice none 0 0)]) (fun _ => []) (fun _ => True) (fun _ => 0) () trivial ⟨rfl, rfl, trivial⟩ rfl ?_
    rintro _ u _
    refine Body.seq ?_
    refine Body.seq ?_
    refine Body.region ?_
    refine Ops.u (Dtu.mv (lk rfl)) rfl ?_
    refine Ops.u (Dtu.mv (lk rfl)) rfl ?_
    refine Ops.u (Dtu.lenS Try.underlying32 (Sl.up h) (lk rfl)) rfl ?_
    refine Ops.u (Dtu.lss (lk rfl) (lk rfl)) rfl ?_
    refine Ops.nil ?_
    refine Then.next ?_
    refine Body.condP (lk rfl) (fun hy => absurd hy (by first | omega | assumption | decide)) (fun _ => ?_)
    refine Body.exit ?_
    refine Then.exit ?_
    refine Round.exit ?_
    refine Blk.here ?_
    refine Then.next ?_
    refine Body.seq ?_
    refine Body.region ?_
    refine Ops.u (Dtu.mv (lk rfl)) rfl ?_
    refine Ops.u (Dtu.mv (lk rfl)) rfl ?_
    refine Ops.u (Dtu.lenS Try.underlying32 (Sl.up h) (lk rfl)) rfl ?_
    refine Ops.u (Dtu.geq (lk rfl) (lk rfl)) rfl ?_
    refine Ops.u (Dtu.asg (lk rfl)) rfl ?_
    refine Ops.u (Dtu.asg (lk rfl)) rfl ?_
    refine Ops.nil ?_
    refine Then.next ?_
    refine Body.ret ?_
    exact ⟨.inr rfl, _, pk [] rfl, by show Value.tuple #[_, .bool (decide (5 ≤ (bs.length : Int)))] = _; rw [decide_eq_false (by omega)]; rfl, rfl⟩
  · have hr0 : runsP bs = readRs bs (bs.length + 1) [] 5 := by unfold runsP; rw [if_neg h5]
    refine Body.seq ?_
    refine Body.region ?_
    refine Ops.u (Dtu.asg (lk rfl)) rfl ?_
    refine Ops.u (Dtu.asg (lk rfl)) rfl ?_
    refine Ops.nil ?_
    refine Then.next ?_
    refine Body.seq ?_
    refine Body.region ?_
    refine Ops.u (Dtu.asg (lk rfl)) rfl ?_
    refine Ops.nil ?_
    refine Then.next ?_
    refine Body.seq ?_
    refine Body.region ?_
    refine Ops.u (Dtu.asg (lk rfl)) rfl ?_
    refine Ops.nil ?_
    refine Then.next ?_
    refine Body.seq ?_
    refine Body.block ?_
    refine Body.conseq (H' := [osl 115 2 (.slice none 0 0) 0 [], many []]) (fun w s => osl_nil (many_nil s)) ?_
    refine Body.loopF (γ := Nat × List RunV × Int × Value) rfl (fun g => [(5, .int .i64 g.2.2.1), (4, g.2.2.2)]) (fun g => [osl 115 2 g.2.2.2 g.2.1.length (g.2.1.flatMap RunV.enc), many (g.2.1.map RunV.own)])
      (fun g => readRs bs g.1 (g.2.1.map RunV.val) g.2.2.1 = runsP bs ∧ 5 ≤ g.2.2.1 ∧ g.2.2.1 ≤ bs.length ∧ (bs.length : Int) - g.2.2.1 < g.1 ∧ (g.2.1.length : Int) ≤ g.2.2.1) (fun g => g.1) (bs.length + 1, [], 5, .slice none 0 0) ⟨hr0.symm, by simp, by simp; omega, by simp; omega, by simp⟩ ⟨rfl, rfl, trivial⟩ rfl ?_
    rintro ⟨k, L, a, O⟩ u ⟨hr, ha0, ha1, hk, hn⟩
    dsimp only at hr ha0 ha1 hk hn ⊢
    refine Body.pure (Sl.isSl (Sl.osl 0 rfl)) fun hO => ?_
    obtain ⟨z1, z2, z3, rfl⟩ := hO
    obtain ⟨k, rfl⟩ : ∃ k', k = k' + 1 := ⟨k - 1, by omega⟩
    have g1 := getS_bound bs hb a
    have g2 := getS_next bs a
    have g3 := getS_bound bs hb (getS bs a).2.1
    have g4 := getS_next bs (getS bs a).2.1
    rw [readRs] at hr
    refine Body.seq ?_
    refine Body.seq ?_
    refine Body.region ?_
    refine Ops.u (Dtu.mv (lk rfl)) rfl ?_
    refine Ops.u (Dtu.mv (lk rfl)) rfl ?_
    refine Ops.u (Dtu.lenS Try.underlying32 (Sl.up h) (lk rfl)) rfl ?_
    refine Ops.u (Dtu.lss (lk rfl) (lk rfl)) rfl ?_
    refine Ops.nil ?_
    refine Then.next ?_
    refine Body.condP (lk rfl) (fun c17 => ?_) (fun c17 => ?_)
    · rw [if_pos (by omega)] at hr
      refine Body.skip ?_
      refine Then.next ?_
      refine Body.block ?_
      refine Body.seq ?_
      refine Body.region ?_
      refine Ops.u (Dtu.mv (lk rfl)) rfl ?_
      refine Ops.u (Dtu.mv (lk rfl)) rfl ?_
      refine Ops.s (Stp.call rfl Try.call74 (lks rfl) (fun E' le hat => get_ok E' _ _ _ (Sl.mono (by assumption) le) (by assumption)) ?_) rfl
      rintro _ _ ⟨rfl, rfl⟩
      refine Ops.u (Dtu.mv (lk rfl)) rfl ?_
      refine Ops.u (Dtu.ext (lk rfl) rfl) rfl ?_
      refine Ops.u (Dtu.ext (lk rfl) rfl) rfl ?_
      refine Ops.u (Dtu.ext (lk rfl) rfl) rfl ?_
      refine Ops.u (Dtu.asg (lk rfl)) rfl ?_
      refine Ops.u (Dtu.asg (lk rfl)) rfl ?_
      refine Ops.u (Dtu.asg (lk rfl)) rfl ?_
      refine Ops.nil ?_
      refine Then.next ?_
      refine Body.seq ?_
      refine Body.seq ?_
      refine Body.region ?_
      refine Ops.u (Dtu.mv (lk rfl)) rfl ?_
      refine Ops.u (Dtu.neq (lk rfl) (lk rfl)) rfl ?_
      refine Ops.nil ?_
      refine Then.next ?_
      refine Body.condP (lk rfl) (fun c26 => ?_) (fun c26 => ?_)
      · rw [if_pos (by assumption)] at hr
        refine Body.seq ?_
        refine Body.region ?_
        refine Ops.u (Dtu.asg (lk rfl)) rfl ?_
        refine Ops.u (Dtu.asg (lk rfl)) rfl ?_
        refine Ops.nil ?_
        refine Then.next ?_
        refine Body.ret ?_
        refine Then.ret ?_
        refine Blk.ret ?_
        refine Round.ret ?_
        refine Blk.ret ?_
        refine Then.ret ?_
        rw [← hr]
        exact ⟨.inr rfl, _, pk [] rfl, rfl, rfl⟩
      · rw [if_neg (by assumption)] at hr
        refine Body.skip ?_
        refine Then.next ?_
        refine Body.seq ?_
        refine Body.region ?_
        refine Ops.u (Dtu.mv (lk rfl)) rfl ?_
        refine Ops.u (Dtu.mv (lk rfl)) rfl ?_
        refine Ops.s (Stp.call rfl Try.call74 (lks rfl) (fun E' le hat => get_ok E' _ _ _ (Sl.mono (by assumption) le) (by assumption)) ?_) rfl
        rintro _ _ ⟨rfl, rfl⟩
        refine Ops.u (Dtu.mv (lk rfl)) rfl ?_
        refine Ops.u (Dtu.ext (lk rfl) rfl) rfl ?_
        refine Ops.u (Dtu.ext (lk rfl) rfl) rfl ?_
        refine Ops.u (Dtu.ext (lk rfl) rfl) rfl ?_
        refine Ops.u (Dtu.asg (lk rfl)) rfl ?_
        refine Ops.u (Dtu.asg (lk rfl)) rfl ?_
        refine Ops.u (Dtu.asg (lk rfl)) rfl ?_
        refine Ops.nil ?_
        refine Then.next ?_
        refine Body.seq ?_
        refine Body.seq ?_
        refine Body.region ?_
        refine Ops.u (Dtu.mv (lk rfl)) rfl ?_
        refine Ops.u (Dtu.neq (lk rfl) (lk rfl)) rfl ?_
        refine Ops.u (Dtu.mv (lk rfl)) rfl ?_
        refine Ops.decP 36 rfl (fun c36 => ?_) (fun c36 => ?_)
        · rw [if_pos (.inl (by assumption))] at hr
          refine Ops.gn rfl rfl rfl rfl rfl ?_
          refine Ops.gn rfl rfl rfl rfl rfl ?_
          refine Ops.u (Dtu.pickT (lk rfl) (lk rfl)) rfl ?_
          refine Ops.nil ?_
          refine Then.next ?_
          refine Body.condT (lk rfl) ?_
          refine Body.seq ?_
          refine Body.region ?_
          refine Ops.u (Dtu.asg (lk rfl)) rfl ?_
          refine Ops.u (Dtu.asg (lk rfl)) rfl ?_
          refine Ops.nil ?_
          refine Then.next ?_
          refine Body.ret ?_
          refine Then.ret ?_
          refine Blk.ret ?_
          refine Round.ret ?_
          refine Blk.ret ?_
          refine Then.ret ?_
          rw [← hr]
          exact ⟨.inr rfl, _, pk [] rfl, rfl, rfl⟩
        · refine Ops.gu rfl rfl rfl (Dtu.mv (lk rfl)) rfl ?_
          refine Ops.gu rfl rfl rfl (Dtu.eql (lk rfl) (lk rfl)) rfl ?_
          refine Ops.u (Dtu.pickF (lk rfl) (lk rfl)) rfl ?_
          refine Ops.nil ?_
          refine Then.next ?_
          refine Body.condP (lk rfl) (fun c39 => ?_) (fun c39 => ?_)
          · rw [if_pos (.inr (by assumption))] at hr
            refine Body.seq ?_
            refine Body.region ?_
            refine Ops.u (Dtu.asg (lk rfl)) rfl ?_
            refine Ops.u (Dtu.asg (lk rfl)) rfl ?_
            refine Ops.nil ?_
            refine Then.next ?_
            refine Body.ret ?_
            refine Then.ret ?_
            refine Blk.ret ?_
            refine Round.ret ?_
            refine Blk.ret ?_
            refine Then.ret ?_
            rw [← hr]
            exact ⟨.inr rfl, _, pk [] rfl, rfl, rfl⟩
          · rw [if_neg (by omega)] at hr
            have e1 := g2 (by omega)
            have e2 := g4 (by omega)
            obtain ⟨q, hq⟩ := Int.eq_ofNat_of_zero_le g3.1
            rw [hq, Int.toNat_natCast] at hr
            generalize hp0 : (getS bs (getS bs a).2.1).2.1 = p0 at *
            refine Body.skip ?_
            refine Then.next ?_
            refine Body.seq ?_
            refine Body.region ?_
            refine Ops.u (Dtu.mv (lk rfl)) rfl ?_
            refine Ops.u (Dtu.min (lk rfl) (lk rfl)) rfl ?_
            refine Ops.u (Dtu.cvt Try.underlying75 Try.underlying3 (lk rfl) (w64 (by omega) (by omega))) rfl ?_
            refine Ops.u (Dtu.build ty115 pl115 (lkp rfl) rfl rfl) rfl ?_
            refine Ops.s (Stp.alloc ty115 (fun b10 => ?_)) rfl
            refine Ops.e (Stp.store 0 Try.sizeOf115 (lk rfl) (lk rfl) rfl rfl rfl rfl rfl rfl rfl ?_)
            refine Ops.nil ?_
            refine Then.next ?_
            refine Body.seq ?_
            refine Body.seq ?_
            refine Body.region ?_
            refine Ops.u (Dtu.mv (lk rfl)) rfl ?_
            refine Ops.u (Dtu.mv (lk rfl)) rfl ?_
            refine Ops.u (Dtu.lenS Try.underlying32 (Sl.up h) (lk rfl)) rfl ?_
            refine Ops.u (Dtu.cvt Try.underlying3 Try.underlying75 (lk rfl) (wu64 (by omega) (by omega))) rfl ?_
            refine Ops.u (Dtu.min (lk rfl) (lk rfl)) rfl ?_
            refine Ops.u (Dtu.mv (lk rfl)) rfl ?_
            refine Ops.nil ?_
            refine Then.next ?_
            refine Body.block ?_
            refine Body.conseq (H' := [osl 55 4 (.slice none 0 0) 0 [], own b10 [.int .i64 (min (getS bs a).1 24000), .slice none 0 0] 115, osl 115 2 (.slice z1 z2 z3) L.length (L.flatMap RunV.enc), many (L.map RunV.own)]) (fun w s => osl_nil s) ?_
            refine Body.loopF (γ := List Cell × Int × (Option Addr × Nat × Nat)) rfl (fun g => [(49, .int .u64 g.1.length), (7, .int .i64 g.2.1)]) (fun g => [osl 55 4 (.slice g.2.2.1 g.2.2.2.1 g.2.2.2.2) g.1.length (g.1.flatMap Cell.enc), own b10 [.int .i64 (min (getS bs a).1 24000), .slice g.2.2.1 g.2.2.2.1 g.2.2.2.2] 115, osl 115 2 (.slice z1 z2 z3) L.length (L.flatMap RunV.enc), many (L.map RunV.own)])
              (fun g => readN bs (q - g.1.length) g.1 g.2.1 = readN bs q [] p0 ∧ (g.1.length : Int) ≤ min (q : Int) bs.length ∧ p0 + g.1.length ≤ g.2.1 ∧ g.2.1 ≤ bs.length) (fun g => q - g.1.length) ([], p0, (none, 0, 0)) ⟨by simp, by simp; omega, by simp, by dsimp only; omega⟩ ⟨rfl, rfl, trivial⟩ rfl ?_
            rintro ⟨cs, p, y1, y2, y3⟩ u2 ⟨hN, hj, hp1, hp2⟩
            dsimp only at hN hj hp1 hp2 ⊢
            have hcf := cellR_fl bs hb p
            have hcn := cellR_next bs p
            refine Body.seq ?_
            refine Body.region ?_
            refine Ops.u (Dtu.lss (lk rfl) (lk rfl)) rfl ?_
            refine Ops.nil ?_
            refine Then.next ?_
            refine Body.seq ?_
            refine Body.condP (lk rfl) (fun c50 => ?_) (fun c50 => ?_)
            · obtain ⟨d, hd⟩ : ∃ d, q - cs.length = d + 1 := ⟨q - cs.length - 1, by omega⟩
              rw [hd, readN] at hN
              refine Body.skip ?_
              refine Then.next ?_
              refine Body.seq ?_
              refine Body.block ?_
              refine Body.seq ?_
              refine Body.region ?_
              refine Ops.u (Dtu.mv (lk rfl)) rfl ?_
              refine Ops.u (Dtu.mv (lk rfl)) rfl ?_
              refine Ops.s (Stp.call rfl Try.call34 (lks rfl) (fun E' le hat => getCell_ok E' _ _ _ (Sl.mono (by assumption) le) (by assumption)) ?_) rfl
              rintro _ _ ⟨rfl, rfl⟩
              refine Ops.u (Dtu.mv (lk rfl)) rfl ?_
              refine Ops.u (Dtu.ext (lk rfl) rfl) rfl ?_
              refine Ops.u (Dtu.ext (lk rfl) rfl) rfl ?_
              refine Ops.u (Dtu.ext (lk rfl) rfl) rfl ?_
              refine Ops.s (Stp.alloc ty55 (fun b11 => ?_)) rfl
              refine Ops.e (Stp.store 0 Try.sizeOf55 (lk rfl) (lk rfl) rfl rfl rfl rfl rfl rfl rfl ?_)
              refine Ops.u (Dtu.asg (lk rfl)) rfl ?_
              refine Ops.u (Dtu.asg (lk rfl)) rfl ?_
              refine Ops.nil ?_
              refine Then.next ?_
              refine Body.seq ?_
              refine Body.seq ?_
              refine Body.region ?_
              refine Ops.u (Dtu.mv (lk rfl)) rfl ?_
              refine Ops.u (Dtu.neq (lk rfl) (lk rfl)) rfl ?_
              refine Ops.nil ?_
              refine Then.next ?_
              refine Body.condP (lk rfl) (fun c59 => ?_) (fun c59 => ?_)
              · rw [if_pos (by assumption)] at hN
                rw [← hN] at hr
                refine Body.seq ?_
                refine Body.region ?_
                refine Ops.u (Dtu.asg (lk rfl)) rfl ?_
                refine Ops.u (Dtu.asg (lk rfl)) rfl ?_
                refine Ops.nil ?_
                refine Then.next ?_
                refine Body.ret ?_
                refine Then.ret ?_
                refine Blk.ret ?_
                refine Then.ret ?_
                refine Round.ret ?_
                refine Blk.ret ?_
                refine Then.ret ?_
                refine Blk.ret ?_
                refine Round.ret ?_
                refine Blk.ret ?_
                refine Then.ret ?_
                rw [← hr]
                exact ⟨.inr rfl, _, pk [] rfl, rfl, rfl⟩
              · rw [if_neg (by assumption)] at hN
                have e3 := hcn (by omega)
                refine Body.skip ?_
                refine Then.next ?_
                refine Body.seq ?_
                refine Body.region ?_
                refine Ops.u (Dtu.fld fa115_1 (lk rfl)) rfl ?_
                refine Ops.d (Det.ld Try.isAgg22 (lk rfl) (Rd.ow 2 rfl rfl)) rfl ?_
                refine Ops.d (Det.lda Try.isAgg55 Try.sizeOf55 (lk rfl) (Rds.ow (m := 4) 0 rfl rfl) rfl) rfl ?_
                refine Ops.s (Stp.buildSliceO Try.underlying22 ty55 (by decide) (by decide) (lkp rfl) rfl rfl rfl (by decide) (fun v63 => ?_)) rfl
                refine Ops.s (Stp.append 2 Try.underlying22 ty55 rfl rfl (lk rfl) (lk rfl) (Sl.osl 0 rfl) (by first | rfl | exact all_map (fun _ => rfl) _ | exact all_flat (fun _ => rfl) _) (by omega) (by omega) (fun v64 => ?_)) rfl
                refine Ops.u (Dtu.fld fa115_1 (lk rfl)) rfl ?_
                refine Ops.pure (Sl.isSl (Sl.osl 2 rfl)) fun h64 => ?_
                obtain ⟨x1, x2, x3, rfl⟩ := h64
                refine Ops.e (Stp.store 3 Try.sizeOf22 (lk rfl) (lk rfl) rfl rfl rfl rfl rfl rfl rfl ?_)
                refine Ops.nil ?_
                refine Then.next ?_
                refine Body.region ?_
                refine Ops.u (Dtu.mv (lk rfl)) rfl ?_
                refine Ops.u (Dtu.asg (lk rfl)) rfl ?_
                refine Ops.nil ?_
                refine Blk.norm ?_
                refine Then.next ?_
                refine Body.region ?_
                refine Ops.u (Dtu.add (lk rfl) (lk rfl) (wu64 (by omega) (by omega))) rfl ?_
                refine Ops.u (Dtu.mv (lk rfl)) rfl ?_
                refine Ops.nil ?_
                refine Round.goK [2, 2, 2, 2] (cs ++ [(cellR bs p).1], (cellR bs p).2.1, (x1, x2, x3)) rfl rfl rfl ⟨int_eq (by simp), rfl, trivial⟩ rfl ?_ ⟨?_, by dsimp only; simp; omega, by dsimp only; simp; omega, by dsimp only; omega⟩ (by simp; omega)
                · simp [Cell.enc]
                · dsimp only
                  rw [← hN]; congr 1; simp; omega
            · have hjq : cs.length = q := by omega
              rw [show q - cs.length = 0 by omega, readN] at hN
              rw [← hN] at hr
              dsimp only at hr
              refine Body.exit ?_
              refine Then.exit ?_
              refine Round.exit ?_
              refine Blk.here ?_
              refine Then.next ?_
              refine Body.seq ?_
              refine Body.seq ?_
              refine Body.region ?_
              refine Ops.u (Dtu.fld fa115_1 (lk rfl)) rfl ?_
              refine Ops.d (Det.ld Try.isAgg22 (lk rfl) (Rd.ow 1 rfl rfl)) rfl ?_
              refine Ops.u (Dtu.lenS Try.underlying22 (Sl.osl 0 rfl) (lk rfl)) rfl ?_
              refine Ops.u (Dtu.cvt Try.underlying3 Try.underlying75 (lk rfl) (wu64 (by omega) (by omega))) rfl ?_
              refine Ops.u (Dtu.mv (lk rfl)) rfl ?_
              refine Ops.u (Dtu.lss (lk rfl) (lk rfl)) rfl ?_
              refine Ops.nil ?_
              refine Then.next ?_
              refine Body.condP (lk rfl) (fun hy => absurd hy (by first | omega | assumption | decide)) (fun _ => ?_)
              refine Body.skip ?_
              refine Then.next ?_
              refine Body.seq ?_
              refine Body.region ?_
              refine Ops.u (Dtu.mv (lk rfl)) rfl ?_
              refine Ops.d (Det.lda Try.isAgg115 Try.sizeOf115 (lk rfl) (Rds.ow (m := 2) 1 rfl rfl) rfl) rfl ?_
              refine Ops.s (Stp.buildSliceO Try.underlying111 ty115 (by decide) (by decide) (lkp rfl) rfl rfl rfl (by decide) (fun v76 => ?_)) rfl
              refine Ops.s (Stp.append 3 Try.underlying111 ty115 rfl rfl (lk rfl) (lk rfl) (Sl.osl 0 rfl) (by first | rfl | exact all_map (fun _ => rfl) _ | exact all_flat (fun _ => rfl) _) (by omega) (by omega) (fun v77 => ?_)) rfl
              refine Ops.u (Dtu.asg (lk rfl)) rfl ?_
              refine Ops.nil ?_
              refine Then.next ?_
              refine Body.region ?_
              refine Ops.u (Dtu.mv (lk rfl)) rfl ?_
              refine Ops.u (Dtu.asg (lk rfl)) rfl ?_
              refine Ops.nil ?_
              refine Blk.norm ?_
              refine Round.goW (k, L ++ [⟨min (getS bs a).1 24000, y1, y2, y3, cs⟩], p, v77) rfl rfl rfl ⟨rfl, rfl, trivial⟩ (fun w s => ?_) ⟨?_, by dsimp only; omega, by dsimp only; omega, by dsimp only; omega, by simp; omega⟩ (by simp)
              · have s1 := s.front [1, 3, 2] rfl
                have s2 := many_snoc s1
                have s3 := pk [1, 0] rfl w s2
                dsimp only
                simp only [List.length_append, List.length_cons, List.length_nil, List.flatMap_append, List.flatMap_cons, List.flatMap_nil, List.map_append, List.map_cons, List.map_nil, List.append_nil]
                exact s3
              · dsimp only
                rw [← hr]; simp [RunV.val]
    · rw [if_neg (by omega)] at hr
      refine Body.exit ?_
      refine Then.exit ?_
      refine Round.exit ?_
      refine Blk.here ?_
      refine Then.next ?_
      refine Body.seq ?_
      refine Body.region ?_
      refine Ops.u (Dtu.mv (lk rfl)) rfl ?_
      refine Ops.u (Dtu.mv (lk rfl)) rfl ?_
      refine Ops.u (Dtu.lenS Try.underlying32 (Sl.up h) (lk rfl)) rfl ?_
      refine Ops.u (Dtu.geq (lk rfl) (lk rfl)) rfl ?_
      refine Ops.u (Dtu.asg (lk rfl)) rfl ?_
      refine Ops.u (Dtu.asg (lk rfl)) rfl ?_
      refine Ops.nil ?_
      refine Then.next ?_
      refine Body.ret ?_
      rw [← hr]
      exact ⟨.inr rfl, _, pk [0, 0] rfl, z1, z2, z3, L, by show Value.tuple #[_, .bool (decide (5 ≤ (bs.length : Int)))] = _; rw [decide_eq_true (by omega)]; rfl, rfl, rfl⟩
end Go.Proofs.Ytijjjdljdjnbaaa
end
section
/- Patches: Apply. -/
namespace Go.Proofs.Ytijjjdljdjnbaaa
set_option maxRecDepth 100000
set_option linter.unusedVariables false
set_option linter.unusedSimpArgs false
open Go.Sx

/-- cells with others laid on them -/
def lay (B : List Cell) (i : Nat) (l : List Cell) : List Cell := B.take i ++ l ++ B.drop (i + l.length)
def applyL : List Cell → Nat → List Run → List Cell
  | B, _, [] => B
  | B, a, (k, l) :: t => if B.length < a + k.toNat ∨ B.length - (a + k.toNat) < l.length then [] else applyL (lay B (a + k.toNat) l) (a + k.toNat + l.length) t
def applyW (a : View) (bs : List Int) (rs : List Run) : View := ⟨bs[0]!, bs[1]!, applyL (baseC a bs[0]! bs[1]!) 0 rs, bs[2]!, bs[3]!, decide (bs[4]! = 1)⟩
/-- the view to which bytes are a patch -/
def applyV (a : View) (bs : List Int) : Option View :=
  match runsP bs with
  | none => none
  | some rs => if a.ok = false ∨ 12 < bs[0]! ∨ 40 < bs[1]! then none else if (applyW a bs rs).ok = true ∧ difB a (applyW a bs rs) = bs then some (applyW a bs rs) else none
theorem lay_len {B l : List Cell} {i : Nat} (h : i + l.length ≤ B.length) : (lay B i l).length = B.length := by simp [lay]; omega
def RunFine (r : Run) : Prop := (0 ≤ r.1 ∧ r.1 ≤ 24000) ∧ ∀ c ∈ r.2, c.Fl
theorem readN_fl (bs : List Int) (hb : Byt bs) : ∀ (k : Nat) (cs : List Cell) (a : Int) {x : List Cell × Int}, readN bs k cs a = some x → (∀ c ∈ cs, c.Fl) → ∀ c ∈ x.1, c.Fl
  | 0, cs, a, x, h, hc => by
    simp only [readN, Option.some.injEq] at h; subst h; exact hc
  | k + 1, cs, a, x, h, hc => by
    simp only [readN] at h
    split at h
    · cases h
    · refine readN_fl bs hb k _ _ h fun c hm => ?_
      rcases List.mem_append.1 hm with hm | hm
      · exact hc c hm
      · rw [List.mem_singleton.1 hm]; exact cellR_fl bs hb a
theorem readRs_fine (bs : List Int) (hb : Byt bs) : ∀ (k : Nat) (rs : List Run) (a : Int) {x : List Run}, readRs bs k rs a = some x → (∀ r ∈ rs, RunFine r) → ∀ r ∈ x, RunFine r
  | 0, rs, a, x, h, hc => by cases h
  | k + 1, rs, a, x, h, hc => by
    simp only [readRs] at h
    split at h
    · split at h
      · cases h
      · split at h
        · cases h
        · split at h
          · cases h
          · rename_i cs a' hN
            refine readRs_fine bs hb k _ _ h fun r hm => ?_
            rcases List.mem_append.1 hm with hm | hm
            · exact hc r hm
            · rw [List.mem_singleton.1 hm]
              have := getS_bound bs hb a
              exact ⟨by dsimp only; omega, readN_fl bs hb _ _ _ hN (by simp)⟩
    · simp only [Option.some.injEq] at h; subst h; exact hc
theorem runsP_fine {bs : List Int} (hb : Byt bs) {rs : List Run} (h : runsP bs = some rs) : ∀ r ∈ rs, RunFine r := by
  unfold runsP at h
  split at h
  · cases h
  · exact readRs_fine bs hb _ _ _ h (by simp)
theorem runsP_len {bs : List Int} {rs : List Run} (h : runsP bs = some rs) : 5 ≤ bs.length := by
  unfold runsP at h
  split at h
  · cases h
  · omega
theorem lay_fl {B l : List Cell} {i : Nat} (h1 : ∀ c ∈ B, c.Fl) (h2 : ∀ c ∈ l, c.Fl) : ∀ c ∈ lay B i l, c.Fl := fun c hc => by
  simp only [lay, List.mem_append] at hc
  rcases hc with (hc | hc) | hc
  · exact h1 c (List.mem_of_mem_take hc)
  · exact h2 c hc
  · exact h1 c (List.mem_of_mem_drop hc)
theorem applyL_fl : ∀ (rs : List Run) (B : List Cell) (a : Nat), (∀ c ∈ B, c.Fl) → (∀ r ∈ rs, RunFine r) → ∀ c ∈ applyL B a rs, c.Fl
  | [], B, a, h, _ => h
  | (k, l) :: t, B, a, h, hr => by
    simp only [applyL]
    split
    · simp
    · exact applyL_fl t _ _ (lay_fl h (hr (k, l) (by simp)).2) fun r hm => hr r (by simp [hm])
theorem baseC_fl {a : View} (h : ∀ c ∈ a.cells, c.Fl) (r k : Int) : ∀ c ∈ baseC a r k, c.Fl := by
  unfold baseC
  split
  · exact h
  · intro c hc
    rw [(List.mem_replicate.1 hc).2]; exact ⟨by decide, by decide⟩
theorem baseC_len {a : View} {r k : Int} (h : 0 ≤ r ∧ r ≤ 12 ∧ 0 ≤ k ∧ k ≤ 40) (ha : a.cells.length ≤ 480) : (baseC a r k).length ≤ 480 := by
  have := mul_bound0 h
  unfold baseC
  split
  · exact ha
  · rw [List.length_replicate]; omega
theorem encR_byt {r : Nat × List Cell} (h : ∀ c ∈ r.2, c.ok = true ∧ c.Fl) (h1 : r.1 < 1000000) (h2 : r.2.length < 1000000) : BytM (encR r) := by
  have hc : ∀ l : List Cell, (∀ c ∈ l, c.ok = true ∧ c.Fl) → BytM (l.flatMap Cell.bytes) := by
    intro l
    induction l with
    | nil => intro _; exact .nil
    | cons c t ih => intro h; exact .append (c.bytes_byt (h c (by simp)).1 (h c (by simp)).2) (ih fun d hd => h d (by simp [hd]))
  exact .append (putL_byt (by omega) (by omega)) (.append (putL_byt (by omega) (by omega)) (hc _ h))
theorem difR_bound : ∀ (ps : List (Cell × Cell)) (k : Nat) (run : List Cell) (r : Nat × List Cell), r ∈ difR k run ps → r.1 ≤ k + ps.length + 1 ∧ r.2.length ≤ run.length + ps.length ∧ ∀ c ∈ r.2, c ∈ run ∨ c ∈ ps.map Prod.snd
  | [], k, run, r, h => by
    simp only [difR] at h
    split at h
    · cases h
    · rw [List.mem_singleton.1 h]; exact ⟨by simp only [List.length_nil]; omega, by simp, fun c hc => .inl hc⟩
  | (x, y) :: t, k, run, r, h => by
    simp only [difR] at h
    split at h
    · split at h
      · obtain ⟨h1, h2, h3⟩ := difR_bound t _ _ r h
        refine ⟨by simp; omega, by simp at h2 ⊢; omega, fun c hc => ?_⟩
        rcases h3 c hc with h | h
        · cases h
        · exact .inr (by simp at h ⊢; exact .inr h)
      · rcases List.mem_cons.1 h with rfl | h
        · exact ⟨by simp only; omega, by simp, fun c hc => .inl hc⟩
        · obtain ⟨h1, h2, h3⟩ := difR_bound t _ _ r h
          refine ⟨by simp; omega, by simp at h2 ⊢; omega, fun c hc => ?_⟩
          rcases h3 c hc with h | h
          · cases h
          · exact .inr (by simp at h ⊢; exact .inr h)
    · obtain ⟨h1, h2, h3⟩ := difR_bound t _ _ r h
      refine ⟨by simp; omega, by simp at h2 ⊢; omega, fun c hc => ?_⟩
      rcases h3 c hc with h | h
      · rcases List.mem_append.1 h with h | h
        · exact .inl h
        · rw [List.mem_singleton.1 h]; exact .inr (by simp)
      · exact .inr (by simp at h ⊢; exact .inr h)
theorem flatMap_byt {α : Type} {f : α → List Int} : ∀ {l : List α}, (∀ x ∈ l, BytM (f x)) → BytM (l.flatMap f)
  | [], _ => .nil
  | x :: t, h => .append (h x (by simp)) (flatMap_byt fun y hy => h y (by simp [hy]))
theorem difB_byt {a b : View} (hb : b.ok = true) (hf : ∀ c ∈ b.cells, c.Fl) : Byt (difB a b) := by
  obtain ⟨⟨hrc, f1, f2, f3, f4, f5⟩, hc⟩ := View.ok_fits hb
  have hm := mul_bound hrc
  have hl : ((baseC a b.rows b.cols).zip b.cells).length ≤ 480 := by rw [List.length_zip]; omega
  refine BytM.byt (.append (.cons (by omega) (.cons (by omega) (.cons (by omega) (.cons (by omega) (.cons ?_ .nil))))) (flatMap_byt fun r hr => ?_))
  · split <;> omega
  · obtain ⟨h1, h2, h3⟩ := difR_bound _ _ _ r hr
    refine encR_byt (fun c hcm => ?_) (by omega) (by simp at h2; omega)
    rcases h3 c hcm with h | h
    · cases h
    · have : c ∈ b.cells := by
        obtain ⟨p, hp, rfl⟩ := List.mem_map.1 h
        exact (List.of_mem_zip hp).2
      exact ⟨hc c this, hf c this⟩
end Go.Proofs.Ytijjjdljdjnbaaa
end
section
/- Patches: Apply, what it computes. -/
namespace Go.Proofs.Ytijjjdljdjnbaaa
set_option maxRecDepth 100000
set_option linter.unusedVariables false
set_option linter.unusedSimpArgs false
open Go.Sx

set_option maxHeartbeats 3200000 in
theorem apply_ok (E : Env) (a : View) (s b : Value) (bs : List Int) (ha : a.has E [] s) (h : Sl E [] 1 b bs.length (bs.map (.int .u8))) (hb : Byt bs) (hmax : bs.length ≤ 100000) (hfl : ∀ c ∈ a.cells, c.Fl) : Does Try.prog 20 #[a.val s, b] E [] fun r H' =>
    match applyV a bs with
    | some v => ∃ s, r = .tuple #[v.val s, .int .i64 0] ∧ H' = [osl 55 4 s v.cells.length (v.cells.flatMap Cell.enc)]
    | none => r = .tuple #[View.none.val (.slice none 0 0), .int .i64 3] ∧ H' = [] := by
  have hR := fun (E' : Env) (le : Env.Le E E') => runs_ok E' b bs (Sl.mono h le) hb hmax
  unfold View.has at ha
  refine Does.pure ha.isSl fun hs => ?_
  obtain ⟨sa, sm, sc, rfl⟩ := hs
  refine Does.go (args := [a.val (.slice sa sm sc), b]) _ _ Try.func20 rfl Try.ntmps20 rfl rfl ?_
  have hV : applyV a bs = match runsP bs with
      | none => none
      | some rs => if a.ok = false ∨ 12 < bs[0]! ∨ 40 < bs[1]! then none else if (applyW a bs rs).ok = true ∧ difB a (applyW a bs rs) = bs then some (applyW a bs rs) else none := rfl
  cases hr : runsP bs with
  | none =>
    rw [hr] at hR hV
    rw [hV]
    refine Body.seq ?_
    refine Body.region ?_
    refine Ops.s (Stp.box (lk rfl) rfl (fun b2 => ?_)) rfl
    refine Ops.s (Stp.alloc ty24 (fun b4 => ?_)) rfl
    refine Ops.u (Dtu.asg (lk rfl)) rfl ?_
    refine Ops.nil ?_
    refine Then.next ?_
    refine Body.scope ?_
    refine Body.seq ?_
    refine Body.region ?_
    refine Ops.u (Dtu.mv (lk rfl)) rfl ?_
    refine Ops.s (Stp.call rfl Try.call64 (lks rfl) (fun E' le hat => hR E' le) ?_) rfl
    rintro _ _ ⟨rfl, rfl⟩
    refine Ops.u (Dtu.mv (lk rfl)) rfl ?_
    refine Ops.u (Dtu.ext (lk rfl) rfl) rfl ?_
    refine Ops.u (Dtu.ext (lk rfl) rfl) rfl ?_
    refine Ops.u (Dtu.asg (lk rfl)) rfl ?_
    refine Ops.u (Dtu.asg (lk rfl)) rfl ?_
    refine Ops.nil ?_
    refine Then.next ?_
    refine Body.seq ?_
    refine Body.seq ?_
    refine Body.region ?_
    refine Ops.u (Dtu.mv (lk rfl)) rfl ?_
    refine Ops.u (Dtu.not (lk rfl)) rfl ?_
    refine Ops.u (Dtu.mv (lk rfl)) rfl ?_
    refine Ops.gn rfl rfl rfl rfl rfl ?_
    refine Ops.gn rfl rfl rfl rfl rfl ?_
    refine Ops.gn rfl rfl rfl rfl rfl ?_
    refine Ops.u (Dtu.pickT (lk rfl) (lk rfl)) rfl ?_
    refine Ops.nil ?_
    refine Then.next ?_
    refine Body.condT (lk rfl) ?_
    refine Body.seq ?_
    refine Body.region ?_
    refine Ops.u (Dtu.build ty24 pl24 (lkp rfl) rfl rfl) rfl ?_
    refine Ops.e (Stp.store 0 Try.sizeOf24 (lk rfl) (lk rfl) rfl rfl rfl rfl rfl rfl rfl ?_)
    refine Ops.u (Dtu.asg (lk rfl)) rfl ?_
    refine Ops.nil ?_
    refine Then.next ?_
    refine Body.ret ?_
    refine Then.ret ?_
    exact ⟨.inr rfl, _, Loads.agg Try.isAgg24 Try.sizeOf24 (Rds.ow (m := 6) 0 rfl rfl) rfl, _, pk [] rfl, rfl, rfl⟩
  | some rs =>
    have h5 := runsP_len hr
    have hfine := runsP_fine hb hr
    rw [hr] at hR hV
    dsimp only at hV
    refine Body.seq ?_
    refine Body.region ?_
    refine Ops.s (Stp.box (lk rfl) rfl (fun b2 => ?_)) rfl
    refine Ops.s (Stp.alloc ty24 (fun b4 => ?_)) rfl
    refine Ops.u (Dtu.asg (lk rfl)) rfl ?_
    refine Ops.nil ?_
    refine Then.next ?_
    refine Body.scope ?_
    refine Body.seq ?_
    refine Body.region ?_
    refine Ops.u (Dtu.mv (lk rfl)) rfl ?_
    refine Ops.s (Stp.call rfl Try.call64 (lks rfl) (fun E' le hat => hR E' le) ?_) rfl
    rintro _ _ ⟨l1, l2, l3, L, rfl, rfl, hL⟩
    have d0 := hb 0 (by omega)
    have d1 := hb 1 (by omega)
    have d2 := hb 2 (by omega)
    have d3 := hb 3 (by omega)
    have d4 := hb 4 (by omega)
    cases hk : a.ok with
    | false =>
      rw [hV, if_pos (.inl hk)]
      refine Ops.u (Dtu.mv (lk rfl)) rfl ?_
      refine Ops.u (Dtu.ext (lk rfl) rfl) rfl ?_
      refine Ops.u (Dtu.ext (lk rfl) rfl) rfl ?_
      refine Ops.u (Dtu.asg (lk rfl)) rfl ?_
      refine Ops.u (Dtu.asg (lk rfl)) rfl ?_
      refine Ops.nil ?_
      refine Then.next ?_
      refine Body.seq ?_
      refine Body.seq ?_
      refine Body.region ?_
      refine Ops.u (Dtu.mv (lk rfl)) rfl ?_
      refine Ops.u (Dtu.not (lk rfl)) rfl ?_
      refine Ops.u (Dtu.mv (lk rfl)) rfl ?_
      refine Ops.gd rfl rfl rfl (Det.lda Try.isAgg24 Try.sizeOf24 (lk rfl) (Rds.ow (m := 6) 3 rfl rfl) rfl) rfl ?_
      refine Ops.gs rfl rfl rfl (Stp.call rfl Try.call25 (lks rfl) (fun E' le hat => right_ok E' ⟨_, _, _, _, _, _⟩ _ (Sl.mono (by assumption) le)) ?_) rfl
      rintro _ _ ⟨rfl, rfl⟩
      refine Ops.gu rfl rfl rfl (Dtu.not (lk rfl)) rfl ?_
      refine Ops.u (Dtu.pickF (lk rfl) (lk rfl)) rfl ?_
      refine Ops.nil ?_
      refine Then.next ?_
      refine Body.cond (lk rfl) (fun _ => ?_) (fun hn => absurd hn (by simp [hk]))
      refine Body.seq ?_
      refine Body.region ?_
      refine Ops.u (Dtu.build ty24 pl24 (lkp rfl) rfl rfl) rfl ?_
      refine Ops.e (Stp.store 2 Try.sizeOf24 (lk rfl) (lk rfl) rfl rfl rfl rfl rfl rfl rfl ?_)
      refine Ops.u (Dtu.asg (lk rfl)) rfl ?_
      refine Ops.nil ?_
      refine Then.next ?_
      refine Body.ret ?_
      refine Then.ret ?_
      exact ⟨.inr rfl, _, Loads.agg Try.isAgg24 Try.sizeOf24 (Rds.ow (m := 6) 2 rfl rfl) rfl, _, pk [] rfl, rfl, rfl⟩
    | true =>
      obtain ⟨fa, oa⟩ := View.ok_fits hk
      have hma := mul_bound fa.1
      have hla : a.cells.length ≤ 480 := by have := fa.2.2.2.2.2; omega
      refine Ops.u (Dtu.mv (lk rfl)) rfl ?_
      refine Ops.u (Dtu.ext (lk rfl) rfl) rfl ?_
      refine Ops.u (Dtu.ext (lk rfl) rfl) rfl ?_
      refine Ops.u (Dtu.asg (lk rfl)) rfl ?_
      refine Ops.u (Dtu.asg (lk rfl)) rfl ?_
      refine Ops.nil ?_
      refine Then.next ?_
      refine Body.seq ?_
      refine Body.seq ?_
      refine Body.region ?_
      refine Ops.u (Dtu.mv (lk rfl)) rfl ?_
      refine Ops.u (Dtu.not (lk rfl)) rfl ?_
      refine Ops.u (Dtu.mv (lk rfl)) rfl ?_
      refine Ops.gd rfl rfl rfl (Det.lda Try.isAgg24 Try.sizeOf24 (lk rfl) (Rds.ow (m := 6) 3 rfl rfl) rfl) rfl ?_
      refine Ops.gs rfl rfl rfl (Stp.call rfl Try.call25 (lks rfl) (fun E' le hat => right_ok E' ⟨_, _, _, _, _, _⟩ _ (Sl.mono (by assumption) le)) ?_) rfl
      rintro _ _ ⟨rfl, rfl⟩
      refine Ops.gu rfl rfl rfl (Dtu.not (lk rfl)) rfl ?_
      refine Ops.u (Dtu.pickF (lk rfl) (lk rfl)) rfl ?_
      refine Ops.nil ?_
      refine Then.next ?_
      refine Body.cond (lk rfl) (fun hn => absurd hn (by simp [hk])) (fun _ => ?_)
      refine Body.skip ?_
      refine Then.next ?_
      refine Body.seq ?_
      refine Body.draw mixed ?_
      refine AB.u 0 rfl (by decide +kernel) (Dtu.mv (lk rfl)) rfl ?_
      refine AB.u 1 rfl (by decide +kernel) (Dtu.ix (i := 0) Try.underlying32 Try.sizeOf5 (Sl.up h) (lk rfl) (lk rfl) (by omega) (by omega)) rfl ?_
      refine AB.d 2 rfl (by decide +kernel) rfl (Det.ld Try.isAgg5 (lk rfl) (Rd.sl (Sl.up h) (gm (by omega)))) rfl ?_
      refine AB.u 3 rfl (by decide +kernel) (Dtu.cvt Try.underlying5 Try.underlying3 (lk rfl) (w64 (by omega) (by omega))) rfl ?_
      refine AB.u 4 rfl (by decide +kernel) (Dtu.mv (lk rfl)) rfl ?_
      refine AB.u 5 rfl (by decide +kernel) (Dtu.ix (i := 1) Try.underlying32 Try.sizeOf5 (Sl.up h) (lk rfl) (lk rfl) (by omega) (by omega)) rfl ?_
      refine AB.d 6 rfl (by decide +kernel) rfl (Det.ld Try.isAgg5 (lk rfl) (Rd.sl (Sl.up h) (gm (by omega)))) rfl ?_
      refine AB.u 7 rfl (by decide +kernel) (Dtu.cvt Try.underlying5 Try.underlying3 (lk rfl) (w64 (by omega) (by omega))) rfl ?_
      refine AB.u 8 rfl (by decide +kernel) (Dtu.mv (lk rfl)) rfl ?_
      refine AB.u 9 rfl (by decide +kernel) (Dtu.ix (i := 2) Try.underlying32 Try.sizeOf5 (Sl.up h) (lk rfl) (lk rfl) (by omega) (by omega)) rfl ?_
      refine AB.d 10 rfl (by decide +kernel) rfl (Det.ld Try.isAgg5 (lk rfl) (Rd.sl (Sl.up h) (gm (by omega)))) rfl ?_
      refine AB.u 11 rfl (by decide +kernel) (Dtu.cvt Try.underlying5 Try.underlying3 (lk rfl) (w64 (by omega) (by omega))) rfl ?_
      refine AB.u 12 rfl (by decide +kernel) (Dtu.mv (lk rfl)) rfl ?_
      refine AB.u 13 rfl (by decide +kernel) (Dtu.ix (i := 3) Try.underlying32 Try.sizeOf5 (Sl.up h) (lk rfl) (lk rfl) (by omega) (by omega)) rfl ?_
      refine AB.d 14 rfl (by decide +kernel) rfl (Det.ld Try.isAgg5 (lk rfl) (Rd.sl (Sl.up h) (gm (by omega)))) rfl ?_
      refine AB.u 15 rfl (by decide +kernel) (Dtu.cvt Try.underlying5 Try.underlying3 (lk rfl) (w64 (by omega) (by omega))) rfl ?_
      refine AB.u 16 rfl (by decide +kernel) (Dtu.mv (lk rfl)) rfl ?_
      refine AB.u 17 rfl (by decide +kernel) (Dtu.ix (i := 4) Try.underlying32 Try.sizeOf5 (Sl.up h) (lk rfl) (lk rfl) (by omega) (by omega)) rfl ?_
      refine AB.d 18 rfl (by decide +kernel) rfl (Det.ld Try.isAgg5 (lk rfl) (Rd.sl (Sl.up h) (gm (by omega)))) rfl ?_
      refine AB.u 19 rfl (by decide +kernel) (Dtu.eql (lk rfl) (lk rfl)) rfl ?_
      refine AB.u 20 rfl (by decide +kernel) (Dtu.build ty24 pl24 (lkp rfl) rfl rfl) rfl ?_
      refine AB.s 21 rfl (by decide +kernel) (by decide +kernel) (Stp.alloc ty24 (fun b8 => ?_)) rfl
      refine AB.e 22 rfl (by decide +kernel) (by decide +kernel) (Stp.store 0 Try.sizeOf24 (lk rfl) (lk rfl) rfl rfl rfl rfl rfl rfl rfl ?_)
      refine AB.done (by decide +kernel) ?_
      refine Then.next ?_
      refine Body.seq ?_
      refine Body.seq ?_
      refine Body.region ?_
      refine Ops.u (Dtu.fld fa24_0 (lk rfl)) rfl ?_
      refine Ops.d (Det.ld Try.isAgg3 (lk rfl) (Rd.ow 0 rfl rfl)) rfl ?_
      refine Ops.u (Dtu.gtr (lk rfl) (lk rfl)) rfl ?_
      refine Ops.u (Dtu.mv (lk rfl)) rfl ?_
      refine Ops.decP 51 rfl (fun c51 => ?_) (fun c51 => ?_)
      · rw [hV, if_pos (.inr (.inl (by omega)))]
        refine Ops.gn rfl rfl rfl rfl rfl ?_
        refine Ops.gn rfl rfl rfl rfl rfl ?_
        refine Ops.gn rfl rfl rfl rfl rfl ?_
        refine Ops.u (Dtu.pickT (lk rfl) (lk rfl)) rfl ?_
        refine Ops.nil ?_
        refine Then.next ?_
        refine Body.condT (lk rfl) ?_
        refine Body.seq ?_
        refine Body.region ?_
        refine Ops.u (Dtu.build ty24 pl24 (lkp rfl) rfl rfl) rfl ?_
        refine Ops.e (Stp.store 3 Try.sizeOf24 (lk rfl) (lk rfl) rfl rfl rfl rfl rfl rfl rfl ?_)
        refine Ops.u (Dtu.asg (lk rfl)) rfl ?_
        refine Ops.nil ?_
        refine Then.next ?_
        refine Body.ret ?_
        refine Then.ret ?_
        exact ⟨.inr rfl, _, Loads.agg Try.isAgg24 Try.sizeOf24 (Rds.ow (m := 6) 3 rfl rfl) rfl, _, pk [] rfl, rfl, rfl⟩
      · refine Ops.gu rfl rfl rfl (Dtu.fld fa24_1 (lk rfl)) rfl ?_
        refine Ops.gd rfl rfl rfl (Det.ld Try.isAgg3 (lk rfl) (Rd.ow 0 rfl rfl)) rfl ?_
        refine Ops.gu rfl rfl rfl (Dtu.gtr (lk rfl) (lk rfl)) rfl ?_
        refine Ops.u (Dtu.pickF (lk rfl) (lk rfl)) rfl ?_
        refine Ops.nil ?_
        refine Then.next ?_
        refine Body.condP (lk rfl) (fun c55 => ?_) (fun c55 => ?_)
        · rw [hV, if_pos (.inr (.inr (by omega)))]
          refine Body.seq ?_
          refine Body.region ?_
          refine Ops.u (Dtu.build ty24 pl24 (lkp rfl) rfl rfl) rfl ?_
          refine Ops.e (Stp.store 3 Try.sizeOf24 (lk rfl) (lk rfl) rfl rfl rfl rfl rfl rfl rfl ?_)
          refine Ops.u (Dtu.asg (lk rfl)) rfl ?_
          refine Ops.nil ?_
          refine Then.next ?_
          refine Body.ret ?_
          refine Then.ret ?_
          exact ⟨.inr rfl, _, Loads.agg Try.isAgg24 Try.sizeOf24 (Rds.ow (m := 6) 3 rfl rfl) rfl, _, pk [] rfl, rfl, rfl⟩
        · rw [if_neg (by
            rintro (h | h)
            · rw [hk] at h; cases h
            · omega)] at hV
          have hN := baseC_len (a := a) (r := bs[0]!) (k := bs[1]!) (by omega) hla
          have hBf := baseC_fl hfl bs[0]! bs[1]!
          have hW : applyW a bs rs = ⟨bs[0]!, bs[1]!, applyL (baseC a bs[0]! bs[1]!) 0 rs, bs[2]!, bs[3]!, decide (bs[4]! = 1)⟩ := rfl
          refine Body.skip ?_
          refine Then.next ?_
          refine Body.seq ?_
          refine Body.region ?_
          refine Ops.d (Det.lda Try.isAgg24 Try.sizeOf24 (lk rfl) (Rds.ow (m := 6) 4 rfl rfl) rfl) rfl ?_
          refine Ops.u (Dtu.fld fa24_0 (lk rfl)) rfl ?_
          refine Ops.d (Det.ld Try.isAgg3 (lk rfl) (Rd.ow 0 rfl rfl)) rfl ?_
          refine Ops.u (Dtu.fld fa24_1 (lk rfl)) rfl ?_
          refine Ops.d (Det.ld Try.isAgg3 (lk rfl) (Rd.ow 0 rfl rfl)) rfl ?_
          refine Ops.s (Stp.call rfl Try.call58 (lks rfl) (fun E' le hat => base_ok E' a (.slice sa sm sc) bs[0]! bs[1]! (Sl.mono ha le) hla (by omega)) ?_) rfl
          rintro _ _ ⟨w1, w2, w3, rfl, rfl⟩
          generalize baseC a bs[0]! bs[1]! = C at *
          refine Ops.u (Dtu.fld fa24_2 (lk rfl)) rfl ?_
          refine Ops.e (Stp.store 1 Try.sizeOf22 (lk rfl) (lk rfl) rfl rfl rfl rfl rfl rfl rfl ?_)
          refine Ops.nil ?_
          refine Then.next ?_
          refine Body.seq ?_
          refine Body.region ?_
          refine Ops.u (Dtu.asg (lk rfl)) rfl ?_
          refine Ops.nil ?_
          refine Then.next ?_
          refine Body.seq ?_
          refine Body.label ?_
          refine Then.next ?_
          refine Body.seqJ (γ := List Cell × Option Addr × Nat × Nat) rfl (fun _ => []) (fun g => [osl 55 4 (.slice g.2.1 g.2.2.1 g.2.2.2) g.1.length (g.1.flatMap Cell.enc), own b8 [.int .i64 bs[0]!, .int .i64 bs[1]!, .slice g.2.1 g.2.2.1 g.2.2.2, .int .i64 bs[2]!, .int .i64 bs[3]!, .bool (decide (bs[4]! = 1))] 24, own b4 [.int .i64 0, .int .i64 0, .slice none 0 0, .int .i64 0, .int .i64 0, .bool false] 24, own b2 [.int .i64 a.rows, .int .i64 a.cols, .slice sa sm sc, .int .i64 a.row, .int .i64 a.col, .bool a.vis] 24]) (fun g => applyL C 0 rs = g.1) ?_ ?_
          · refine Body.seq ?_
            refine Body.region ?_
            refine Ops.u (Dtu.mv (lk rfl)) rfl ?_
            refine Ops.u (Dtu.lenS Try.underlying111 (Sl.osl 2 rfl) (lk rfl)) rfl ?_
            refine Ops.u (Dtu.mv (lk rfl)) rfl ?_
            refine Ops.nil ?_
            refine Then.next ?_
            refine Body.block ?_
            refine Body.loopF (γ := Nat × List Cell × Nat) rfl (fun g => [(66, .int .i64 g.1), (9, .int .i64 g.2.2)]) (fun g => [osl 55 4 (.slice w1 w2 w3) g.2.1.length (g.2.1.flatMap Cell.enc), own b8 [.int .i64 bs[0]!, .int .i64 bs[1]!, .slice w1 w2 w3, .int .i64 bs[2]!, .int .i64 bs[3]!, .bool (decide (bs[4]! = 1))] 24, osl 115 2 (.slice l1 l2 l3) L.length (L.flatMap RunV.enc), many (L.map RunV.own), own b4 [.int .i64 0, .int .i64 0, .slice none 0 0, .int .i64 0, .int .i64 0, .bool false] 24, own b2 [.int .i64 a.rows, .int .i64 a.cols, .slice sa sm sc, .int .i64 a.row, .int .i64 a.col, .bool a.vis] 24])
              (fun g => g.1 ≤ L.length ∧ applyL g.2.1 g.2.2 (rs.drop g.1) = applyL C 0 rs ∧ g.2.1.length = C.length ∧ g.2.2 ≤ C.length) (fun g => L.length - g.1) (0, C, 0) ⟨by simp, by simp, rfl, by simp⟩ ⟨rfl, rfl, trivial⟩ rfl ?_
            rintro ⟨j, B, p⟩ u ⟨hj, hA, hBl, hp⟩
            dsimp only at hj hA hBl hp ⊢
            refine Body.seq ?_
            refine Body.region ?_
            refine Ops.u (Dtu.lss (lk rfl) (lk rfl)) rfl ?_
            refine Ops.nil ?_
            refine Then.next ?_
            refine Body.seq ?_
            refine Body.condP (lk rfl) (fun c67 => ?_) (fun c67 => ?_)
            · have hmj : (L.map RunV.own)[j]? = some (osl 55 4 (.slice L[j]!.a L[j]!.m L[j]!.c) L[j]!.cells.length (L[j]!.cells.flatMap Cell.enc)) := by
                rw [List.getElem?_map, getElem!_pos L j (by omega), List.getElem?_eq_getElem (by omega)]; rfl
              have hrj : rs.drop j = L[j]!.val :: rs.drop (j + 1) := by
                rw [← hL, ← List.map_drop, ← List.map_drop, List.drop_eq_getElem_cons (by omega : j < L.length), getElem!_pos L j (by omega)]; rfl
              have hfj : RunFine L[j]!.val := hfine _ (by rw [← hL]; exact List.mem_map_of_mem (by rw [getElem!_pos L j (by omega)]; exact List.getElem_mem _))
              refine Body.pure (Sl.litLen (Sl.many 3 j rfl hmj)) fun hmm => ?_
              refine Body.pure (Sl.len (Sl.osl 2 rfl)) fun hLl => ?_
              have f1 : 0 ≤ L[j]!.k := hfj.1.1
              have f2 : L[j]!.k ≤ 24000 := hfj.1.2
              obtain ⟨kk, hkk⟩ := Int.eq_ofNat_of_zero_le f1
              have hAe : applyL B p (rs.drop j) = if B.length < p + kk ∨ B.length - (p + kk) < L[j]!.cells.length then [] else applyL (lay B (p + kk) L[j]!.cells) (p + kk + L[j]!.cells.length) (rs.drop (j + 1)) := by
                rw [hrj]
                show applyL B p ((L[j]!.k, L[j]!.cells) :: rs.drop (j + 1)) = _
                rw [hkk]; rfl
              have hpk : (p : Int) + L[j]!.k = ((p + kk : Nat) : Int) := by omega
              refine Body.skip ?_
              refine Then.next ?_
              refine Body.seq ?_
              refine Body.block ?_
              refine Body.seq ?_
              refine Body.region ?_
              refine Ops.u (Dtu.ix (i := (j)) Try.underlying111 Try.sizeOf115 (Sl.osl 2 rfl) (lk rfl) (lk rfl) (by omega) (by omega)) rfl ?_
              refine Ops.d (Det.lda Try.isAgg115 Try.sizeOf115 (lk rfl) (Rds.sl (Sl.osl 2 rfl) (gf (sz := 2) (fun _ => rfl) (by omega))) rfl) rfl ?_
              refine Ops.s (Stp.alloc ty115 (fun b11 => ?_)) rfl
              refine Ops.e (Stp.store 0 Try.sizeOf115 (lk rfl) (lk rfl) rfl rfl rfl rfl rfl rfl rfl ?_)
              refine Ops.nil ?_
              refine Then.next ?_
              refine Body.seq ?_
              refine Body.region ?_
              refine Ops.u (Dtu.mv (lk rfl)) rfl ?_
              refine Ops.u (Dtu.fld fa115_0 (lk rfl)) rfl ?_
              refine Ops.d (Det.ld Try.isAgg3 (lk rfl) (Rd.ow 0 rfl rfl)) rfl ?_
              refine Ops.u (Dtu.add (lk rfl) (lk rfl) (w64 (by omega) (by omega))) rfl ?_
              refine Ops.u (Dtu.asg (lk rfl)) rfl ?_
              refine Ops.nil ?_
              refine Then.next ?_
              refine Body.seq ?_
              refine Body.seq ?_
              refine Body.region ?_
              refine Ops.u (Dtu.mv (lk rfl)) rfl ?_
              refine Ops.u (Dtu.fld fa24_2 (lk rfl)) rfl ?_
              refine Ops.d (Det.ld Try.isAgg22 (lk rfl) (Rd.ow 2 rfl rfl)) rfl ?_
              refine Ops.u (Dtu.lenS Try.underlying22 (Sl.osl 1 rfl) (lk rfl)) rfl ?_
              refine Ops.u (Dtu.gtr (lk rfl) (lk rfl)) rfl ?_
              refine Ops.u (Dtu.mv (lk rfl)) rfl ?_
              refine Ops.decP 79 rfl (fun c79 => ?_) (fun c79 => ?_)
              · refine Ops.gn rfl rfl rfl rfl rfl ?_
                refine Ops.gn rfl rfl rfl rfl rfl ?_
                refine Ops.gn rfl rfl rfl rfl rfl ?_
                refine Ops.gn rfl rfl rfl rfl rfl ?_
                refine Ops.gn rfl rfl rfl rfl rfl ?_
                refine Ops.gn rfl rfl rfl rfl rfl ?_
                refine Ops.gn rfl rfl rfl rfl rfl ?_
                refine Ops.gn rfl rfl rfl rfl rfl ?_
                refine Ops.gn rfl rfl rfl rfl rfl ?_
                refine Ops.u (Dtu.pickT (lk rfl) (lk rfl)) rfl ?_
                refine Ops.nil ?_
                refine Then.next ?_
                refine Body.condT (lk rfl) ?_
                refine Body.seq ?_
                refine Body.region ?_
                refine Ops.u (Dtu.fld fa24_2 (lk rfl)) rfl ?_
                refine Ops.e (Stp.store 2 Try.sizeOf22 (lk rfl) (lk rfl) rfl rfl rfl rfl rfl rfl rfl ?_)
                refine Ops.nil ?_
                refine Then.next ?_
                refine Body.exit ?_
                refine Then.exit ?_
                refine Blk.past rfl ?_
                refine Then.exit ?_
                refine Round.exit ?_
                refine Blk.here ?_
                refine Joint.goW ([], none, 0, 0) rfl rfl rfl trivial (fun w s => osl_nil (pk [2, 4, 4] rfl w s)) ?_
                rw [← hA, hAe, if_pos (.inl (by omega))]
              · refine Ops.gu rfl rfl rfl (Dtu.fld fa115_1 (lk rfl)) rfl ?_
                refine Ops.gd rfl rfl rfl (Det.ld Try.isAgg22 (lk rfl) (Rd.ow 0 rfl rfl)) rfl ?_
                refine Ops.gu rfl rfl rfl (Dtu.lenS Try.underlying22 (Sl.many 4 _ rfl hmj) (lk rfl)) rfl ?_
                refine Ops.gu rfl rfl rfl (Dtu.fld fa24_2 (lk rfl)) rfl ?_
                refine Ops.gd rfl rfl rfl (Det.ld Try.isAgg22 (lk rfl) (Rd.ow 2 rfl rfl)) rfl ?_
                refine Ops.gu rfl rfl rfl (Dtu.lenS Try.underlying22 (Sl.osl 1 rfl) (lk rfl)) rfl ?_
                refine Ops.gu rfl rfl rfl (Dtu.mv (lk rfl)) rfl ?_
                refine Ops.gu rfl rfl rfl (Dtu.sub (lk rfl) (lk rfl) (w64 (by omega) (by omega))) rfl ?_
                refine Ops.gu rfl rfl rfl (Dtu.gtr (lk rfl) (lk rfl)) rfl ?_
                refine Ops.u (Dtu.pickF (lk rfl) (lk rfl)) rfl ?_
                refine Ops.nil ?_
                refine Then.next ?_
                refine Body.condP (lk rfl) (fun c89 => ?_) (fun c89 => ?_)
                · refine Body.seq ?_
                  refine Body.region ?_
                  refine Ops.u (Dtu.fld fa24_2 (lk rfl)) rfl ?_
                  refine Ops.e (Stp.store 2 Try.sizeOf22 (lk rfl) (lk rfl) rfl rfl rfl rfl rfl rfl rfl ?_)
                  refine Ops.nil ?_
                  refine Then.next ?_
                  refine Body.exit ?_
                  refine Then.exit ?_
                  refine Blk.past rfl ?_
                  refine Then.exit ?_
                  refine Round.exit ?_
                  refine Blk.here ?_
                  refine Joint.goW ([], none, 0, 0) rfl rfl rfl trivial (fun w s => osl_nil (pk [2, 4, 4] rfl w s)) ?_
                  rw [← hA, hAe, if_pos (.inr (by omega))]
                · refine Body.skip ?_
                  refine Then.next ?_
                  refine Body.seq ?_
                  refine Body.draw mixed ?_
                  refine AB.u 0 rfl (by decide +kernel) (Dtu.fld fa24_2 (lk rfl)) rfl ?_
                  refine AB.d 1 rfl (by decide +kernel) rfl (Det.ld Try.isAgg22 (lk rfl) (Rd.ow 2 rfl rfl)) rfl ?_
                  refine AB.u 2 rfl (by decide +kernel) (Dtu.mv (lk rfl)) rfl ?_
                  refine AB.u 3 rfl (by decide +kernel) (Dtu.slL (p + L[j]!.k.toNat) Try.underlying22 Try.sizeOf55 (Sl.osl 1 rfl) (lk rfl) (lk rfl) (by omega) (by omega)) rfl ?_
                  refine AB.u 4 rfl (by decide +kernel) (Dtu.fld fa115_1 (lk rfl)) rfl ?_
                  refine AB.d 5 rfl (by decide +kernel) rfl (Det.ld Try.isAgg22 (lk rfl) (Rd.ow 0 rfl rfl)) rfl ?_
                  refine AB.s 6 rfl (by decide +kernel) (by decide +kernel) (Stp.copyF (enc := Cell.enc) (sz := 4) 1 (fun _ => rfl) Try.underlying22 Try.sizeOf55 rfl (lk rfl) (LiesIn.sub' (Sl.osl 1 rfl) (by omega) (by omega)) (by omega) (lk rfl) (Sl.many 4 _ rfl hmj) (fun _ => rfl) rfl ?_) rfl
                  have htn : L[j]!.k.toNat = kk := by omega
                  have hmin : Nat.min L[j]!.cells.length (B.length - (p + kk)) = L[j]!.cells.length := Nat.min_eq_left (by omega)
                  refine AB.done (by decide +kernel) ?_
                  refine Then.next ?_
                  refine Body.region ?_
                  refine Ops.u (Dtu.mv (lk rfl)) rfl ?_
                  refine Ops.u (Dtu.fld fa115_1 (lk rfl)) rfl ?_
                  refine Ops.d (Det.ld Try.isAgg22 (lk rfl) (Rd.ow 0 rfl rfl)) rfl ?_
                  refine Ops.u (Dtu.lenS Try.underlying22 (Sl.many 4 _ rfl hmj) (lk rfl)) rfl ?_
                  refine Ops.u (Dtu.add (lk rfl) (lk rfl) (w64 (by omega) (by omega))) rfl ?_
                  refine Ops.u (Dtu.asg (lk rfl)) rfl ?_
                  refine Ops.nil ?_
                  refine Blk.norm ?_
                  refine Then.next ?_
                  refine Body.region ?_
                  refine Ops.u (Dtu.add (lk rfl) (lk rfl) (w64 (by omega) (by omega))) rfl ?_
                  refine Ops.u (Dtu.mv (lk rfl)) rfl ?_
                  refine Ops.nil ?_
                  refine Round.goK [1, 1, 1, 1, 1, 1] (j + 1, lay B (p + kk) L[j]!.cells, p + kk + L[j]!.cells.length) rfl rfl rfl ⟨int_eq (by simp), int_eq (by dsimp only; omega), trivial⟩ rfl ?_ ⟨by dsimp only; omega, ?_, ?_, by dsimp only; omega⟩ (by dsimp only; omega)
                  · dsimp only
                    rw [lay_len (by omega), htn, hmin, List.take_length]; rfl
                  · dsimp only
                    rw [← hA, hAe, if_neg (by omega)]
                  · dsimp only
                    rw [lay_len (by omega)]; exact hBl
            · have hjL : j = L.length := by omega
              have hAB : applyL C 0 rs = B := by
                rw [← hA, List.drop_eq_nil_of_le (by rw [← hL]; simp; omega)]; rfl
              refine Body.exit ?_
              refine Then.exit ?_
              refine Round.exit ?_
              refine Blk.here ?_
              exact Joint.goK [0, 0, 2, 2] (B, w1, w2, w3) rfl rfl rfl trivial rfl rfl hAB
          · rintro ⟨B, w1, w2, w3⟩ u hB
            dsimp only at hB ⊢
            rw [hB] at hW
            have hBfl : ∀ c ∈ B, c.Fl := by rw [← hB]; exact applyL_fl rs C 0 hBf hfine
            generalize applyW a bs rs = V at *
            subst hW
            cases hkb : View.ok ⟨bs[0]!, bs[1]!, B, bs[2]!, bs[3]!, decide (bs[4]! = 1)⟩ with
            | false =>
              rw [if_neg (by rw [hkb]; simp)] at hV
              rw [hV]
              refine Body.seq ?_
              refine Body.seq ?_
              refine Body.region ?_
              refine Ops.d (Det.lda Try.isAgg24 Try.sizeOf24 (lk rfl) (Rds.ow (m := 6) 3 rfl rfl) rfl) rfl ?_
              refine Ops.d (Det.lda Try.isAgg24 Try.sizeOf24 (lk rfl) (Rds.ow (m := 6) 1 rfl rfl) rfl) rfl ?_
              refine Ops.s (Stp.call rfl Try.call17 (lks rfl) (fun E' le hat => diff_no E' a ⟨bs[0]!, bs[1]!, B, bs[2]!, bs[3]!, decide (bs[4]! = 1)⟩ _ _ (Sl.mono ha le) (Sl.at (hat _ (.head _))) (by rw [hkb]; simp)) ?_) rfl
              rintro _ _ ⟨rfl, rfl⟩
              refine Ops.u (Dtu.mv (lk rfl)) rfl ?_
              refine Ops.u (Dtu.ext (lk rfl) rfl) rfl ?_
              refine Ops.u (Dtu.ext (lk rfl) rfl) rfl ?_
              refine Ops.u (Dtu.asg (lk rfl)) rfl ?_
              refine Ops.u (Dtu.asg (lk rfl)) rfl ?_
              refine Ops.nil ?_
              refine Then.next ?_
              refine Body.seq ?_
              refine Body.region ?_
              refine Ops.u (Dtu.mv (lk rfl)) rfl ?_
              refine Ops.u (Dtu.neq (lk rfl) (lk rfl)) rfl ?_
              refine Ops.u (Dtu.mv (lk rfl)) rfl ?_
              refine Ops.decP 112 rfl (fun _ => ?_) (fun hn => absurd (by first | omega | assumption | decide) hn)
              refine Ops.gn rfl rfl rfl rfl rfl ?_
              refine Ops.gn rfl rfl rfl rfl rfl ?_
              refine Ops.gn rfl rfl rfl rfl rfl ?_
              refine Ops.gn rfl rfl rfl rfl rfl ?_
              refine Ops.u (Dtu.pickT (lk rfl) (lk rfl)) rfl ?_
              refine Ops.nil ?_
              refine Then.next ?_
              refine Body.condT (lk rfl) ?_
              refine Body.seq ?_
              refine Body.region ?_
              refine Ops.u (Dtu.build ty24 pl24 (lkp rfl) rfl rfl) rfl ?_
              refine Ops.e (Stp.store 2 Try.sizeOf24 (lk rfl) (lk rfl) rfl rfl rfl rfl rfl rfl rfl ?_)
              refine Ops.u (Dtu.asg (lk rfl)) rfl ?_
              refine Ops.nil ?_
              refine Then.next ?_
              refine Body.ret ?_
              refine Then.ret ?_
              exact ⟨.inr rfl, _, Loads.agg Try.isAgg24 Try.sizeOf24 (Rds.ow (m := 6) 2 rfl rfl) rfl, _, pk [] rfl, rfl, rfl⟩
            | true =>
              have hbt := difB_byt (a := a) hkb hBfl
              refine Body.seq ?_
              refine Body.seq ?_
              refine Body.region ?_
              refine Ops.d (Det.lda Try.isAgg24 Try.sizeOf24 (lk rfl) (Rds.ow (m := 6) 3 rfl rfl) rfl) rfl ?_
              refine Ops.d (Det.lda Try.isAgg24 Try.sizeOf24 (lk rfl) (Rds.ow (m := 6) 1 rfl rfl) rfl) rfl ?_
              refine Ops.s (Stp.call rfl Try.call17 (lks rfl) (fun E' le hat => diff_ok E' a ⟨bs[0]!, bs[1]!, B, bs[2]!, bs[3]!, decide (bs[4]! = 1)⟩ _ _ (Sl.mono ha le) (Sl.at (hat _ (.head _))) hk hkb) ?_) rfl
              rintro _ _ ⟨s107, rfl, rfl⟩
              refine Ops.u (Dtu.mv (lk rfl)) rfl ?_
              refine Ops.u (Dtu.ext (lk rfl) rfl) rfl ?_
              refine Ops.u (Dtu.ext (lk rfl) rfl) rfl ?_
              refine Ops.u (Dtu.asg (lk rfl)) rfl ?_
              refine Ops.u (Dtu.asg (lk rfl)) rfl ?_
              refine Ops.nil ?_
              refine Then.next ?_
              refine Body.seq ?_
              refine Body.region ?_
              refine Ops.u (Dtu.mv (lk rfl)) rfl ?_
              refine Ops.u (Dtu.neq (lk rfl) (lk rfl)) rfl ?_
              refine Ops.u (Dtu.mv (lk rfl)) rfl ?_
              refine Ops.decP 112 rfl (fun hy => absurd hy (by first | omega | assumption | decide)) (fun _ => ?_)
              refine Ops.gu rfl rfl rfl (Dtu.mv (lk rfl)) rfl ?_
              refine Ops.gu rfl rfl rfl (Dtu.mv (lk rfl)) rfl ?_
              refine Ops.gs rfl rfl rfl (Stp.call rfl Try.call65 (lks rfl) (fun E' le hat => bytesEqual_ok E' _ _ _ _ (by first | exact Sl.mono (by assumption) le | exact Sl.at (hat _ (.head _)) | exact Sl.at (hat _ (.tail _ (.head _))) | exact Sl.at (hat _ (.tail _ (.tail _ (.head _)))) | exact Sl.at (hat _ (.tail _ (.tail _ (.tail _ (.head _))))) | exact Sl.at (hat _ (.tail _ (.tail _ (.tail _ (.tail _ (.head _)))))) | exact Sl.at (hat _ (.tail _ (.tail _ (.tail _ (.tail _ (.tail _ (.head _)))))))) (by first | exact Sl.mono (by assumption) le | exact Sl.at (hat _ (.head _)) | exact Sl.at (hat _ (.tail _ (.head _))) | exact Sl.at (hat _ (.tail _ (.tail _ (.head _)))) | exact Sl.at (hat _ (.tail _ (.tail _ (.tail _ (.head _))))) | exact Sl.at (hat _ (.tail _ (.tail _ (.tail _ (.tail _ (.head _)))))) | exact Sl.at (hat _ (.tail _ (.tail _ (.tail _ (.tail _ (.tail _ (.head _)))))))) (by assumption) (by assumption)) ?_) rfl
              rintro _ _ ⟨rfl, rfl⟩
              refine Ops.gu rfl rfl rfl (Dtu.notP (lk rfl)) rfl ?_
              refine Ops.u (Dtu.pickF (lk rfl) (lk rfl)) rfl ?_
              refine Ops.nil ?_
              refine Then.next ?_
              refine Body.condP (lk rfl) (fun c117 => ?_) (fun c117 => ?_)
              · rw [if_neg (fun h => c117 h.2)] at hV
                rw [hV]
                refine Body.seq ?_
                refine Body.region ?_
                refine Ops.u (Dtu.build ty24 pl24 (lkp rfl) rfl rfl) rfl ?_
                refine Ops.e (Stp.store 3 Try.sizeOf24 (lk rfl) (lk rfl) rfl rfl rfl rfl rfl rfl rfl ?_)
                refine Ops.u (Dtu.asg (lk rfl)) rfl ?_
                refine Ops.nil ?_
                refine Then.next ?_
                refine Body.ret ?_
                refine Then.ret ?_
                exact ⟨.inr rfl, _, Loads.agg Try.isAgg24 Try.sizeOf24 (Rds.ow (m := 6) 3 rfl rfl) rfl, _, pk [] rfl, rfl, rfl⟩
              · rw [if_pos ⟨hkb, Decidable.of_not_not c117⟩] at hV
                rw [hV]
                refine Body.skip ?_
                refine Then.next ?_
                refine Body.seq ?_
                refine Body.region ?_
                refine Ops.d (Det.lda Try.isAgg24 Try.sizeOf24 (lk rfl) (Rds.ow (m := 6) 2 rfl rfl) rfl) rfl ?_
                refine Ops.e (Stp.store 3 Try.sizeOf24 (lk rfl) (lk rfl) rfl rfl rfl rfl rfl rfl rfl ?_)
                refine Ops.u (Dtu.asg (lk rfl)) rfl ?_
                refine Ops.nil ?_
                refine Then.next ?_
                refine Body.ret ?_
                exact ⟨.inr rfl, _, Loads.agg Try.isAgg24 Try.sizeOf24 (Rds.ow (m := 6) 3 rfl rfl) rfl, _, pk [1] rfl, .slice w1 w2 w3, rfl, rfl⟩
end Go.Proofs.Ytijjjdljdjnbaaa
end
section
/- Patches: there and back; how many runs and bytes. -/
namespace Go.Proofs.Ytijjjdljdjnbaaa
set_option maxRecDepth 100000
set_option linter.unusedVariables false
set_option linter.unusedSimpArgs false
open Go.Sx

theorem readN_put : ∀ (xs cs : List Cell) (l r : List Int), (∀ c ∈ xs, c.ok = true) → readN (l ++ (xs.flatMap Cell.bytes ++ r)) xs.length cs l.length = some (cs ++ xs, ((l.length + (xs.flatMap Cell.bytes).length : Nat) : Int))
  | [], cs, l, r, _ => by simp [readN]
  | c :: t, cs, l, r, h => by
    have hc := cellR_put l (t.flatMap Cell.bytes ++ r) (h c (by simp))
    have e : l ++ ((c :: t).flatMap Cell.bytes ++ r) = l ++ (c.bytes ++ (t.flatMap Cell.bytes ++ r)) := by simp
    rw [e, List.length_cons, readN, hc]
    simp only [ne_eq, not_true_eq_false, if_false]
    have ih := readN_put t (cs ++ [c]) (l ++ c.bytes) r (fun d hd => h d (by simp [hd]))
    rw [List.length_append, Cell.bytes_len, List.append_assoc] at ih
    rw [show ((l.length : Int) + c.size) = ((l.length + c.size : Nat) : Int) by omega, ih]
    simp [Cell.bytes_len]; omega
def runI (r : Nat × List Cell) : Run := (min (r.1 : Int) 24000, r.2)
theorem readRs_put : ∀ (R : List (Nat × List Cell)) (k : Nat) (rs : List Run) (l : List Int), (∀ r ∈ R, r.1 < 1000000 ∧ r.2.length < 1000000 ∧ r.2 ≠ [] ∧ ∀ c ∈ r.2, c.ok = true) → R.length < k →
    readRs (l ++ R.flatMap encR) k rs l.length = some (rs ++ R.map runI)
  | [], k + 1, rs, l, _, _ => by
    simp [readRs]
  | r :: t, k + 1, rs, l, h, hk => by
    obtain ⟨h1, h2, h3, h4⟩ := h r (by simp)
    have hz : 1 ≤ sizeS (r.1 : Int) := sizeS_pos (by omega)
    have hn : 0 < r.2.length := List.length_pos_iff.2 h3
    have e : l ++ (r :: t).flatMap encR = l ++ (putL r.1 ++ (putL r.2.length ++ (r.2.flatMap Cell.bytes ++ t.flatMap encR))) := by simp [encR]
    have g1 := getS_put l (putL r.2.length ++ (r.2.flatMap Cell.bytes ++ t.flatMap encR)) (v := (r.1 : Int)) (by omega) (by omega)
    have g2 := getS_put (l ++ putL r.1) (r.2.flatMap Cell.bytes ++ t.flatMap encR) (v := (r.2.length : Int)) (by omega) (by omega)
    have g3 := readN_put r.2 [] (l ++ putL r.1 ++ putL r.2.length) (t.flatMap encR) h4
    rw [List.append_assoc, List.length_append, putL_len] at g2
    rw [List.append_assoc, List.append_assoc, List.length_append, List.length_append, putL_len, putL_len] at g3
    have ih := readRs_put t k (rs ++ [runI r]) (l ++ encR r) (fun x hx => h x (by simp [hx])) (by simp at hk; omega)
    have el : (l ++ encR r).length = l.length + sizeS (r.1 : Int) + sizeS (r.2.length : Int) + (r.2.flatMap Cell.bytes).length := by simp [encR, putL_len]; omega
    have e2 : (l ++ encR r) ++ t.flatMap encR = l ++ (r :: t).flatMap encR := by simp
    rw [e2, el] at ih
    rw [readRs, if_pos (by rw [e]; simp [putL_len]; omega)]
    rw [e]
    rw [e] at ih
    rw [g1]
    simp only [ne_eq, not_true_eq_false, if_false]
    rw [show ((l.length : Int) + sizeS (r.1 : Int)) = ((l.length + sizeS (r.1 : Int) : Nat) : Int) by omega, g2]
    rw [if_neg (by simp; exact h3)]
    dsimp only
    rw [Int.toNat_natCast, show ((l.length + sizeS (r.1 : Int) : Nat) : Int) + (sizeS (r.2.length : Int) : Int) = ((l.length + sizeS (r.1 : Int) + sizeS (r.2.length : Int) : Nat) : Int) by omega, g3]
    dsimp only [List.nil_append]
    have : (rs ++ [(min (r.1 : Int) 24000, r.2)]) = rs ++ [runI r] := rfl
    rw [this, ih]
    simp
theorem difR_some : ∀ (ps : List (Cell × Cell)) (k : Nat) (run : List Cell) (r : Nat × List Cell), r ∈ difR k run ps → r.2 ≠ []
  | [], k, run, r, h => by
    simp only [difR] at h
    split at h
    · cases h
    · rename_i hr
      rw [List.mem_singleton.1 h]; exact hr
  | (x, y) :: t, k, run, r, h => by
    simp only [difR] at h
    split at h
    · split at h
      · exact difR_some t _ _ r h
      · rename_i hr
        rcases List.mem_cons.1 h with rfl | h
        · exact hr
        · exact difR_some t _ _ r h
    · exact difR_some t _ _ r h
theorem applyL_dif : ∀ (ps : List (Cell × Cell)) (k : Nat) (X S R run : List Cell), S.length = k → R.length = run.length → k + ps.length + run.length ≤ 24000 →
    applyL (X ++ (S ++ (R ++ ps.map Prod.fst))) X.length ((difR k run ps).map runI) = X ++ (S ++ (run ++ ps.map Prod.snd))
  | [], k, X, S, R, run, hS, hR, hb => by
    simp only [difR]
    split
    · rename_i h
      subst h
      have : R = [] := List.length_eq_zero_iff.1 (by simpa using hR)
      subst this
      simp [applyL]
    · simp only [List.map_cons, List.map_nil, applyL, runI]
      have hm : (min (k : Int) 24000).toNat = k := by simp at hb; omega
      rw [hm, if_neg (by simp; omega)]
      unfold lay
      rw [show X ++ (S ++ (R ++ [])) = (X ++ S) ++ R by simp, List.take_left' (by simp; omega), List.drop_of_length_le (by simp; omega)]
      simp
  | (x, y) :: t, k, X, S, R, run, hS, hR, hb => by
    simp only [difR]
    simp only [List.length_cons] at hb
    split
    · rename_i hxy
      subst hxy
      split
      · rename_i h
        subst h
        have : R = [] := List.length_eq_zero_iff.1 (by simpa using hR)
        subst this
        have ih := applyL_dif t (k + 1) X (S ++ [x]) [] [] (by simp; omega) rfl (by simp; omega)
        simpa using ih
      · simp only [List.map_cons, applyL, runI]
        have hm : (min (k : Int) 24000).toNat = k := by omega
        rw [hm, if_neg (by simp; omega)]
        have ih := applyL_dif t 1 (X ++ (S ++ run)) [x] [] [] rfl rfl (by simp; omega)
        have el : lay (X ++ (S ++ (R ++ x :: t.map Prod.fst))) (X.length + k) run = X ++ (S ++ run) ++ ([x] ++ ([] ++ t.map Prod.fst)) := by
          unfold lay
          rw [show X ++ (S ++ (R ++ x :: t.map Prod.fst)) = (X ++ S) ++ (R ++ x :: t.map Prod.fst) by simp, List.take_left' (by simp; omega)]
          rw [show (X ++ S) ++ (R ++ x :: t.map Prod.fst) = (X ++ S ++ R) ++ (x :: t.map Prod.fst) by simp, List.drop_left' (by simp; omega)]
          simp
        rw [el, show X.length + k + run.length = (X ++ (S ++ run)).length by simp; omega, ih]
        simp
    · have ih := applyL_dif t k X S (R ++ [x]) (run ++ [y]) hS (by simp; omega) (by simp; omega)
      simpa using ih
end Go.Proofs.Ytijjjdljdjnbaaa
end
section
/- Patches: the laws. -/
namespace Go.Proofs.Ytijjjdljdjnbaaa
set_option maxRecDepth 100000
set_option linter.unusedVariables false
set_option linter.unusedSimpArgs false
open Go.Sx

theorem baseC_full {a b : View} (ha : a.ok = true) (hb : b.ok = true) : (baseC a b.rows b.cols).length = b.cells.length := by
  have fa := (View.ok_fits ha).1
  have fb := (View.ok_fits hb).1
  have := mul_bound fb.1
  unfold baseC
  split
  · rename_i h; have := fa.2.2.2.2.2; have := fb.2.2.2.2.2; rw [h.1, h.2] at *; omega
  · rw [List.length_replicate]; have := fb.2.2.2.2.2; omega
theorem ok_480 {b : View} (hb : b.ok = true) : 1 ≤ b.cells.length ∧ b.cells.length ≤ 480 := by
  have fb := (View.ok_fits hb).1
  have := mul_bound fb.1
  have := fb.2.2.2.2.2
  omega
/-- what becomes what -/
def difP (a b : View) : List (Cell × Cell) := (baseC a b.rows b.cols).zip b.cells
theorem difP_len {a b : View} (ha : a.ok = true) (hb : b.ok = true) : (difP a b).length = b.cells.length := by
  unfold difP; rw [List.length_zip, baseC_full ha hb]; omega
theorem difR_fine {a b : View} (ha : a.ok = true) (hb : b.ok = true) (r : Nat × List Cell) (h : r ∈ difR 0 [] (difP a b)) : (r.1 ≤ 481 ∧ r.2.length ≤ 480) ∧ r.2 ≠ [] ∧ ∀ c ∈ r.2, c.ok = true := by
  have hl := difP_len ha hb
  have h4 := ok_480 hb
  obtain ⟨h1, h2, h3⟩ := difR_bound _ _ _ r h
  refine ⟨⟨by omega, by simp at h2; omega⟩, difR_some _ _ _ r h, fun c hc => ?_⟩
  rcases h3 c hc with h | h
  · cases h
  · obtain ⟨p, hp, rfl⟩ := List.mem_map.1 h
    exact (View.ok_fits hb).2 _ (List.of_mem_zip hp).2
theorem head_len (b : View) : b.head.length = 5 := rfl
theorem encR_pos (r : Nat × List Cell) (h : r.1 < 1000000) : 1 ≤ (encR r).length := by
  have : 1 ≤ sizeS (r.1 : Int) := sizeS_pos (by omega)
  simp [encR, putL_len]; omega
theorem flat_many {R : List (Nat × List Cell)} (h : ∀ r ∈ R, r.1 < 1000000) : R.length ≤ (R.flatMap encR).length := by
  induction R with
  | nil => simp
  | cons r t ih =>
    have := encR_pos r (h r (by simp))
    have := ih fun x hx => h x (by simp [hx])
    simp only [List.flatMap_cons, List.length_append, List.length_cons]; omega
theorem difB_runs {a b : View} (ha : a.ok = true) (hb : b.ok = true) : runsP (difB a b) = some ((difR 0 [] (difP a b)).map runI) := by
  have e : difB a b = b.head ++ (difR 0 [] (difP a b)).flatMap encR := rfl
  have hf := difR_fine ha hb
  have hm := flat_many (R := difR 0 [] (difP a b)) fun r hr => by have := (hf r hr).1; omega
  unfold runsP
  rw [if_neg (by rw [e, List.length_append, head_len]; omega)]
  have h := readRs_put (difR 0 [] (difP a b)) ((difB a b).length + 1) [] b.head (fun r hr => ⟨by have := (hf r hr).1; omega, by have := (hf r hr).1; omega, (hf r hr).2⟩) (by rw [e, List.length_append, head_len]; omega)
  rw [← e, head_len] at h
  simpa using h
theorem head_at {b : View} (l : List Int) : (b.head ++ l)[0]! = b.rows ∧ (b.head ++ l)[1]! = b.cols ∧ (b.head ++ l)[2]! = b.row ∧ (b.head ++ l)[3]! = b.col ∧ decide ((b.head ++ l)[4]! = 1) = b.vis := by
  refine ⟨rfl, rfl, rfl, rfl, ?_⟩
  have : (b.head ++ l)[4]! = if b.vis then 1 else 0 := rfl
  rw [this]; cases b.vis <;> rfl
theorem difB_at (a b : View) : (difB a b)[0]! = b.rows ∧ (difB a b)[1]! = b.cols ∧ (difB a b)[2]! = b.row ∧ (difB a b)[3]! = b.col ∧ decide ((difB a b)[4]! = 1) = b.vis := head_at _
theorem applyV_dif {a b : View} (ha : a.ok = true) (hb : b.ok = true) : applyV a (difB a b) = some b := by
  obtain ⟨e0, e1, e2, e3, e4⟩ := difB_at a b
  have fb := (View.ok_fits hb).1
  have hl := baseC_full ha hb
  have h4 := ok_480 hb
  have hA := applyL_dif (difP a b) 0 [] [] [] [] rfl rfl (by rw [difP_len ha hb]; simp; omega)
  have f1 : (difP a b).map Prod.fst = baseC a b.rows b.cols := by unfold difP; exact List.map_fst_zip (by omega)
  have f2 : (difP a b).map Prod.snd = b.cells := by unfold difP; exact List.map_snd_zip (by omega)
  simp only [List.nil_append, List.length_nil, f1, f2] at hA
  have hW : applyW a (difB a b) ((difR 0 [] (difP a b)).map runI) = b := by
    unfold applyW
    rw [e0, e1, e2, e3, e4, hA]
  unfold applyV
  rw [difB_runs ha hb]
  dsimp only
  rw [e0, e1, if_neg (by rintro (h | h); · rw [ha] at h; cases h
                         · have := fb.1; omega), hW, if_pos ⟨hb, rfl⟩]
/-- how many are others -/
def others : List (Cell × Cell) → Nat
  | [] => 0
  | p :: t => (if p.1 = p.2 then 0 else 1) + others t
theorem difR_few : ∀ (ps : List (Cell × Cell)) (k : Nat) (run : List Cell), (difR k run ps).length ≤ (if run = [] then 0 else 1) + others ps ∧ ((difR k run ps).flatMap Prod.snd).length = run.length + others ps
  | [], k, run => by
    simp only [difR, others]
    split
    · rename_i h; simp [h]
    · simp
  | (x, y) :: t, k, run => by
    simp only [difR, others]
    split
    · rename_i hxy
      split
      · rename_i h
        have ih := difR_few t (k + 1) []
        simp [h] at ih ⊢; exact ih
      · have ih := difR_few t 1 []
        simp at ih ⊢; omega
    · have ih := difR_few t k (run ++ [y])
      simp at ih ⊢
      refine ⟨?_, by omega⟩
      split <;> omega
theorem cells_len {l : List Cell} (h : ∀ c ∈ l, c.ok = true) : (l.flatMap Cell.bytes).length ≤ 13 * l.length := by
  induction l with
  | nil => simp
  | cons c t ih =>
    have := Cell.size_13 (h c (by simp))
    have := ih fun d hd => h d (by simp [hd])
    simp only [List.flatMap_cons, List.length_append, Cell.bytes_len, List.length_cons]; omega
theorem enc_len {R : List (Nat × List Cell)} (h : ∀ r ∈ R, (r.1 ≤ 481 ∧ r.2.length ≤ 480) ∧ r.2 ≠ [] ∧ ∀ c ∈ r.2, c.ok = true) : (R.flatMap encR).length ≤ 17 * (R.flatMap Prod.snd).length ∧ R.length ≤ (R.flatMap Prod.snd).length := by
  induction R with
  | nil => simp
  | cons r t ih =>
    obtain ⟨⟨h1, h2⟩, h3, h4⟩ := h r (by simp)
    have ih := ih fun x hx => h x (by simp [hx])
    have c1 := cells_len h4
    have s1 := sizeS_2 (v := (r.1 : Int)) (by omega)
    have s2 := sizeS_2 (v := (r.2.length : Int)) (by omega)
    have hp : 0 < r.2.length := List.length_pos_iff.2 h3
    simp only [List.flatMap_cons, List.length_append, List.length_cons, encR, putL_len]
    omega
theorem difB_len {a b : View} (ha : a.ok = true) (hb : b.ok = true) : (difB a b).length ≤ 5 + 17 * others (difP a b) ∧ (difR 0 [] (difP a b)).length ≤ others (difP a b) ∧ (0 < (difR 0 [] (difP a b)).length ↔ 5 < (difB a b).length) ∧ (0 < (difR 0 [] (difP a b)).length ↔ 0 < others (difP a b)) := by
  have e : (difB a b).length = 5 + ((difR 0 [] (difP a b)).flatMap encR).length := by
    have : difB a b = b.head ++ (difR 0 [] (difP a b)).flatMap encR := rfl
    rw [this, List.length_append, head_len]
  have hf := difR_fine ha hb
  have h1 := difR_few (difP a b) 0 []
  have h2 := enc_len hf
  have h3 := flat_many (R := difR 0 [] (difP a b)) fun r hr => by have := (hf r hr).1; omega
  simp only [if_true, List.length_nil, Nat.zero_add] at h1
  have h5 : (difR 0 [] (difP a b)).length = 0 → ((difR 0 [] (difP a b)).flatMap encR).length = 0 ∧ ((difR 0 [] (difP a b)).flatMap Prod.snd).length = 0 := fun h => by
    rw [List.length_eq_zero_iff.1 h]; simp
  rw [e]
  refine ⟨by omega, by omega, ?_, ?_⟩ <;> constructor <;> intro h <;> by_cases hz : (difR 0 [] (difP a b)).length = 0 <;> omega
theorem others_le (ps : List (Cell × Cell)) : others ps ≤ ps.length := by
  induction ps with
  | nil => simp [others]
  | cons p t ih => simp only [others, List.length_cons]; split <;> omega
end Go.Proofs.Ytijjjdljdjnbaaa
end
section
/- Patches: the fixed calls of longlinelaw21.alive. -/
namespace Go.Proofs.Ytijjjdljdjnbaaa
set_option maxRecDepth 100000
set_option linter.unusedVariables false
set_option linter.unusedSimpArgs false
open Go.Sx

theorem first_fl : ∀ c ∈ View.first.cells, c.Fl := by
  intro c hc
  have : c = ⟨32, 0, 0, 0⟩ := by simpa [View.first] using hc
  rw [this]; exact ⟨by decide, by decide⟩
end Go.Proofs.Ytijjjdljdjnbaaa
end
section
/- PatchFew: what it computes. -/
namespace Go.Proofs.Ytijjjdljdjnbaaa
set_option maxRecDepth 100000
set_option linter.unusedVariables false
set_option linter.unusedSimpArgs false
open Go.Sx

end Go.Proofs.Ytijjjdljdjnbaaa
end
section
/- PatchMakes: what it computes. -/
namespace Go.Proofs.Ytijjjdljdjnbaaa
set_option maxRecDepth 100000
set_option linter.unusedVariables false
set_option linter.unusedSimpArgs false
open Go.Sx

end Go.Proofs.Ytijjjdljdjnbaaa
end
