/- Patches: numbers' bytes, and the patch itself. -/
import Derived.Test.YtijjjdljdjnbaaaPatA
namespace Go.Proofs.Ytijjjdljdjnbaaa
set_option maxRecDepth 100000
set_option linter.unusedVariables false
set_option linter.unusedSimpArgs false
open Go.Sx

theorem numbers_ok (E : Env) (s : Value) (xs : List Int) (h : Sl E [] 1 s xs.length (xs.map (.int .i64))) (hx : ∀ x ∈ xs, 0 ≤ x ∧ x < 4611686018427387904) (hn : xs.length ≤ 100) : Does Try.prog 59 #[s] E [] fun r H' => ∃ s', s' = r ∧ H' = [osl 5 1 s' (xs.flatMap putL).length ((xs.flatMap putL).map (.int .u8))] := by
  refine Does.pure h.len fun hlen => ?_
  refine Does.go (args := [s]) _ _ Try.func59 rfl Try.ntmps59 rfl rfl ?_
  refine Body.seq ?_
  refine Body.region ?_
  refine Ops.u (Dtu.asg (lk rfl)) rfl ?_
  refine Ops.nil ?_
  refine Then.next ?_
  refine Body.seq ?_
  refine Body.region ?_
  refine Ops.u (Dtu.asg (lk rfl)) rfl ?_
  refine Ops.nil ?_
  refine Then.next ?_
  refine Body.seq ?_
  refine Body.seq ?_
  refine Body.region ?_
  refine Ops.u (Dtu.mv (lk rfl)) rfl ?_
  refine Ops.u (Dtu.lenS Try.underlying167 (Sl.up h) (lk rfl)) rfl ?_
  refine Ops.u (Dtu.mv (lk rfl)) rfl ?_
  refine Ops.nil ?_
  refine Then.next ?_
  refine Body.block ?_
  refine Body.conseq (H' := [osl 5 1 (.slice none 0 0) 0 []]) (fun w s => osl_nil s) ?_
  refine Body.loopF (γ := Nat × Value) rfl (fun g => [(10, .int .i64 g.1), (3, g.2)]) (fun g => [osl 5 1 g.2 ((xs.take g.1).flatMap putL).length (((xs.take g.1).flatMap putL).map (.int .u8))]) (fun g => g.1 ≤ xs.length ∧ ((xs.take g.1).flatMap putL).length ≤ 8 * g.1) (fun g => xs.length - g.1) (0, .slice none 0 0) (by simp) ⟨rfl, rfl, trivial⟩ rfl ?_
  rintro ⟨i, O⟩ u ⟨hi, hb⟩
  dsimp only at hi hb ⊢
  refine Body.seq ?_
  refine Body.region ?_
  refine Ops.u (Dtu.lss (lk rfl) (lk rfl)) rfl ?_
  refine Ops.nil ?_
  refine Then.next ?_
  refine Body.seq ?_
  refine Body.condP (lk rfl) (fun c11 => ?_) (fun c11 => ?_)
  · obtain ⟨x0, x1⟩ := hx xs[i]! (by rw [getElem!_pos xs i (by omega)]; exact List.getElem_mem _)
    refine Body.skip ?_
    refine Then.next ?_
    refine Body.seq ?_
    refine Body.block ?_
    refine Body.seq ?_
    refine Body.region ?_
    refine Ops.u (Dtu.ix (i := (i)) Try.underlying167 Try.sizeOf3 (Sl.up h) (lk rfl) (lk rfl) (by omega) (by omega)) rfl ?_
    refine Ops.d (Det.ld Try.isAgg3 (lk rfl) (Rd.sl (Sl.up h) (gm (by omega)))) rfl ?_
    refine Ops.u (Dtu.asg (lk rfl)) rfl ?_
    refine Ops.nil ?_
    refine Then.next ?_
    refine Body.seq ?_
    refine Body.region ?_
    refine Ops.u (Dtu.mv (lk rfl)) rfl ?_
    refine Ops.u (Dtu.cvt Try.underlying3 Try.underlying75 (lk rfl) (wu64 (by omega) (by omega))) rfl ?_
    refine Ops.s (Stp.call rfl Try.call73 (lks rfl) (fun E' le hat => put_fine E' _ (by omega) (by omega)) ?_) rfl
    rintro _ _ ⟨s17, hz17, rfl, rfl⟩
    refine Ops.u (Dtu.mv (lk rfl)) rfl ?_
    refine Ops.u (Dtu.ext (lk rfl) rfl) rfl ?_
    refine Ops.u (Dtu.ext (lk rfl) rfl) rfl ?_
    refine Ops.u (Dtu.asg (lk rfl)) rfl ?_
    refine Ops.u (Dtu.asg (lk rfl)) rfl ?_
    refine Ops.nil ?_
    refine Then.next ?_
    refine Body.region ?_
    refine Ops.u (Dtu.mv (lk rfl)) rfl ?_
    refine Ops.u (Dtu.mv (lk rfl)) rfl ?_
    refine Ops.s (Stp.append 1 Try.underlying32 ty5 rfl rfl (lk rfl) (lk rfl) (Sl.osl 0 rfl) (by first | rfl | exact all_map (fun _ => rfl) _ | exact all_flat (fun _ => rfl) _) (by omega) (by omega) (fun v22 => ?_)) rfl
    refine Ops.u (Dtu.asg (lk rfl)) rfl ?_
    refine Ops.nil ?_
    refine Blk.norm ?_
    refine Then.next ?_
    refine Body.region ?_
    refine Ops.u (Dtu.add (lk rfl) (lk rfl) (w64 (by omega) (by omega))) rfl ?_
    refine Ops.u (Dtu.mv (lk rfl)) rfl ?_
    refine Ops.nil ?_
    have e : (xs.take (i + 1)).flatMap putL = (xs.take i).flatMap putL ++ putL xs[i]! := by rw [take_snoc (by omega), List.flatMap_append]; simp
    refine Round.goK [1] (i + 1, v22) rfl rfl rfl ⟨int_eq (by simp), rfl, trivial⟩ rfl ?_ ⟨by dsimp only; omega, ?_⟩ (by dsimp only; omega)
    · dsimp only
      rw [e]; simp [putL_len]
    · dsimp only
      rw [e, List.length_append, putL_len]; omega
  · obtain rfl : i = xs.length := by omega
    rw [List.take_length]
    refine Body.exit ?_
    refine Then.exit ?_
    refine Round.exit ?_
    refine Blk.here ?_
    refine Then.next ?_
    refine Body.seq ?_
    refine Body.region ?_
    refine Ops.u (Dtu.mv (lk rfl)) rfl ?_
    refine Ops.u (Dtu.asg (lk rfl)) rfl ?_
    refine Ops.nil ?_
    refine Then.next ?_
    refine Body.ret ?_
    exact ⟨.inr rfl, _, pk [0] rfl, O, rfl, rfl⟩
end Go.Proofs.Ytijjjdljdjnbaaa
