/- Qe: RefA, RefB, RefC, RefD, RefE, RefF, RefG. -/
import Derived.ChangeKeysEq
import Derived.Test.YtijjjdljdjnbaaaRaa
import Derived.Test.YtijjjdljdjnbaaaRab
import Derived.Test.YtijjjdljdjnbaaaRac
import Derived.Test.YtijjjdljdjnbaaaRad
section
/- The document's numbers (longlineref01), points and styles. -/
namespace Go.Proofs.Ytijjjdljdjnbaaa
set_option maxRecDepth 100000
set_option linter.unusedVariables false
set_option linter.unusedSimpArgs false
open Go.Sx

theorem sizeS_is (v : Int) (n : Nat) (h : (v < 64 ∧ n = 1) ∨ (64 ≤ v ∧ v < 16384 ∧ n = 2) ∨ (16384 ≤ v ∧ v < 1073741824 ∧ n = 4) ∨ (1073741824 ≤ v ∧ v < 4611686018427387904 ∧ n = 8) ∨ (4611686018427387904 ≤ v ∧ n = 0)) : sizeS v = n := by
  have key : ∀ k, classS v = k → sizeS v = if k = 4 then 0 else 2 ^ k := fun k h => by unfold sizeS; rw [h]
  rcases h with ⟨h1, rfl⟩ | ⟨h0, h1, rfl⟩ | ⟨h0, h1, rfl⟩ | ⟨h0, h1, rfl⟩ | ⟨h0, rfl⟩
  · rw [key 0 (by unfold classS; repeat (first | rw [if_pos (by omega)] | rw [if_neg (by omega)]))]; rfl
  · rw [key 1 (by unfold classS; repeat (first | rw [if_pos (by omega)] | rw [if_neg (by omega)]))]; rfl
  · rw [key 2 (by unfold classS; repeat (first | rw [if_pos (by omega)] | rw [if_neg (by omega)]))]; rfl
  · rw [key 3 (by unfold classS; repeat (first | rw [if_pos (by omega)] | rw [if_neg (by omega)]))]; rfl
  · rw [key 4 (by unfold classS; repeat (first | rw [if_pos (by omega)] | rw [if_neg (by omega)]))]; rfl
theorem rsize_ok (E : Env) (v : Int) : Does Try.prog 105 #[.int .u64 v] E [] fun r H' => r = .int .i64 (sizeS v) ∧ H' = [] := by
  refine Does.go (args := [.int .u64 v]) _ _ Try.func105 rfl Try.ntmps105 rfl rfl ?_
  refine Body.seq ?_
  refine Body.region ?_
  refine Ops.u (Dtu.asg (lk rfl)) rfl ?_
  refine Ops.nil ?_
  refine Then.next ?_
  refine Body.seq ?_
  refine Body.seq ?_
  refine Body.region ?_
  refine Ops.u (Dtu.mv (lk rfl)) rfl ?_
  refine Ops.u (Dtu.lss (lk rfl) (lk rfl)) rfl ?_
  refine Ops.nil ?_
  refine Then.next ?_
  refine Body.condP (lk rfl) (fun c4 => ?_) (fun c4 => ?_)
  · refine Body.seq ?_
    refine Body.region ?_
    refine Ops.u (Dtu.asg (lk rfl)) rfl ?_
    refine Ops.nil ?_
    refine Then.next ?_
    refine Body.ret ?_
    refine Then.ret ?_
    (first | exact ⟨.inr rfl, _, pk [] rfl, by rw [sizeS_is v 1 (by omega)]; rfl, rfl⟩ | exact ⟨.inr rfl, _, pk [] rfl, by rw [sizeS_is v 2 (by omega)]; rfl, rfl⟩ | exact ⟨.inr rfl, _, pk [] rfl, by rw [sizeS_is v 4 (by omega)]; rfl, rfl⟩ | exact ⟨.inr rfl, _, pk [] rfl, by rw [sizeS_is v 8 (by omega)]; rfl, rfl⟩ | exact ⟨.inr rfl, _, pk [] rfl, by rw [sizeS_is v 0 (by omega)]; rfl, rfl⟩)
  · refine Body.skip ?_
    refine Then.next ?_
    refine Body.seq ?_
    refine Body.seq ?_
    refine Body.region ?_
    refine Ops.u (Dtu.mv (lk rfl)) rfl ?_
    refine Ops.u (Dtu.lss (lk rfl) (lk rfl)) rfl ?_
    refine Ops.nil ?_
    refine Then.next ?_
    refine Body.condP (lk rfl) (fun c6 => ?_) (fun c6 => ?_)
    · refine Body.seq ?_
      refine Body.region ?_
      refine Ops.u (Dtu.asg (lk rfl)) rfl ?_
      refine Ops.nil ?_
      refine Then.next ?_
      refine Body.ret ?_
      refine Then.ret ?_
      (first | exact ⟨.inr rfl, _, pk [] rfl, by rw [sizeS_is v 1 (by omega)]; rfl, rfl⟩ | exact ⟨.inr rfl, _, pk [] rfl, by rw [sizeS_is v 2 (by omega)]; rfl, rfl⟩ | exact ⟨.inr rfl, _, pk [] rfl, by rw [sizeS_is v 4 (by omega)]; rfl, rfl⟩ | exact ⟨.inr rfl, _, pk [] rfl, by rw [sizeS_is v 8 (by omega)]; rfl, rfl⟩ | exact ⟨.inr rfl, _, pk [] rfl, by rw [sizeS_is v 0 (by omega)]; rfl, rfl⟩)
    · refine Body.skip ?_
      refine Then.next ?_
      refine Body.seq ?_
      refine Body.seq ?_
      refine Body.region ?_
      refine Ops.u (Dtu.mv (lk rfl)) rfl ?_
      refine Ops.u (Dtu.lss (lk rfl) (lk rfl)) rfl ?_
      refine Ops.nil ?_
      refine Then.next ?_
      refine Body.condP (lk rfl) (fun c8 => ?_) (fun c8 => ?_)
      · refine Body.seq ?_
        refine Body.region ?_
        refine Ops.u (Dtu.asg (lk rfl)) rfl ?_
        refine Ops.nil ?_
        refine Then.next ?_
        refine Body.ret ?_
        refine Then.ret ?_
        (first | exact ⟨.inr rfl, _, pk [] rfl, by rw [sizeS_is v 1 (by omega)]; rfl, rfl⟩ | exact ⟨.inr rfl, _, pk [] rfl, by rw [sizeS_is v 2 (by omega)]; rfl, rfl⟩ | exact ⟨.inr rfl, _, pk [] rfl, by rw [sizeS_is v 4 (by omega)]; rfl, rfl⟩ | exact ⟨.inr rfl, _, pk [] rfl, by rw [sizeS_is v 8 (by omega)]; rfl, rfl⟩ | exact ⟨.inr rfl, _, pk [] rfl, by rw [sizeS_is v 0 (by omega)]; rfl, rfl⟩)
      · refine Body.skip ?_
        refine Then.next ?_
        refine Body.seq ?_
        refine Body.seq ?_
        refine Body.region ?_
        refine Ops.u (Dtu.mv (lk rfl)) rfl ?_
        refine Ops.u (Dtu.lss (lk rfl) (lk rfl)) rfl ?_
        refine Ops.nil ?_
        refine Then.next ?_
        refine Body.condP (lk rfl) (fun c10 => ?_) (fun c10 => ?_)
        · refine Body.seq ?_
          refine Body.region ?_
          refine Ops.u (Dtu.asg (lk rfl)) rfl ?_
          refine Ops.nil ?_
          refine Then.next ?_
          refine Body.ret ?_
          refine Then.ret ?_
          (first | exact ⟨.inr rfl, _, pk [] rfl, by rw [sizeS_is v 1 (by omega)]; rfl, rfl⟩ | exact ⟨.inr rfl, _, pk [] rfl, by rw [sizeS_is v 2 (by omega)]; rfl, rfl⟩ | exact ⟨.inr rfl, _, pk [] rfl, by rw [sizeS_is v 4 (by omega)]; rfl, rfl⟩ | exact ⟨.inr rfl, _, pk [] rfl, by rw [sizeS_is v 8 (by omega)]; rfl, rfl⟩ | exact ⟨.inr rfl, _, pk [] rfl, by rw [sizeS_is v 0 (by omega)]; rfl, rfl⟩)
        · refine Body.skip ?_
          refine Then.next ?_
          refine Body.seq ?_
          refine Body.region ?_
          refine Ops.u (Dtu.asg (lk rfl)) rfl ?_
          refine Ops.nil ?_
          refine Then.next ?_
          refine Body.ret ?_
          (first | exact ⟨.inr rfl, _, pk [] rfl, by rw [sizeS_is v 1 (by omega)]; rfl, rfl⟩ | exact ⟨.inr rfl, _, pk [] rfl, by rw [sizeS_is v 2 (by omega)]; rfl, rfl⟩ | exact ⟨.inr rfl, _, pk [] rfl, by rw [sizeS_is v 4 (by omega)]; rfl, rfl⟩ | exact ⟨.inr rfl, _, pk [] rfl, by rw [sizeS_is v 8 (by omega)]; rfl, rfl⟩ | exact ⟨.inr rfl, _, pk [] rfl, by rw [sizeS_is v 0 (by omega)]; rfl, rfl⟩)
theorem ris_ok (E : Env) (p : Int) : Does Try.prog 80 #[.int .i32 p] E [] fun r H' => r = .bool (isPt p) ∧ H' = [] := by
  refine Does.go (args := [.int .i32 p]) _ _ Try.func80 rfl Try.ntmps80 rfl rfl ?_
  refine Body.seq ?_
  refine Body.region ?_
  refine Ops.u (Dtu.asg (lk rfl)) rfl ?_
  refine Ops.nil ?_
  refine Then.next ?_
  refine Body.seq ?_
  refine Body.region ?_
  refine Ops.u (Dtu.mv (lk rfl)) rfl ?_
  refine Ops.u (Dtu.geq (lk rfl) (lk rfl)) rfl ?_
  refine Ops.u (Dtu.mv (lk rfl)) rfl ?_
  refine Ops.decP 5 rfl (fun c5 => ?_) (fun c5 => ?_)
  · refine Ops.gu rfl rfl rfl (Dtu.mv (lk rfl)) rfl ?_
    refine Ops.gu rfl rfl rfl (Dtu.lss (lk rfl) (lk rfl)) rfl ?_
    refine Ops.u (Dtu.pickT (lk rfl) (lk rfl)) rfl ?_
    refine Ops.u (Dtu.mv (lk rfl)) rfl ?_
    refine Ops.decP 9 rfl (fun c9 => ?_) (fun c9 => ?_)
    · refine Ops.gn rfl rfl rfl rfl rfl ?_
      refine Ops.gn rfl rfl rfl rfl rfl ?_
      refine Ops.gn rfl rfl rfl rfl rfl ?_
      refine Ops.gn rfl rfl rfl rfl rfl ?_
      refine Ops.gn rfl rfl rfl rfl rfl ?_
      refine Ops.gn rfl rfl rfl rfl rfl ?_
      refine Ops.u (Dtu.pickT (lk rfl) (lk rfl)) rfl ?_
      refine Ops.u (Dtu.asg (lk rfl)) rfl ?_
      refine Ops.nil ?_
      refine Then.next ?_
      refine Body.ret ?_
      (refine ⟨.inr rfl, _, pk [] rfl, bool_eq ?_, rfl⟩; simp [isPt]; omega)
    · refine Ops.gu rfl rfl rfl (Dtu.mv (lk rfl)) rfl ?_
      refine Ops.gu rfl rfl rfl (Dtu.gtr (lk rfl) (lk rfl)) rfl ?_
      refine Ops.gu rfl rfl rfl (Dtu.mv (lk rfl)) rfl ?_
      refine Ops.decP 12 rfl (fun c12 => ?_) (fun c12 => ?_)
      · refine Ops.gu rfl rfl rfl (Dtu.mv (lk rfl)) rfl ?_
        refine Ops.gu rfl rfl rfl (Dtu.lss (lk rfl) (lk rfl)) rfl ?_
        refine Ops.gu rfl rfl rfl (Dtu.pickT (lk rfl) (lk rfl)) rfl ?_
        refine Ops.u (Dtu.pickF (lk rfl) (lk rfl)) rfl ?_
        refine Ops.u (Dtu.asg (lk rfl)) rfl ?_
        refine Ops.nil ?_
        refine Then.next ?_
        refine Body.ret ?_
        (refine ⟨.inr rfl, _, pk [] rfl, bool_eq ?_, rfl⟩; simp [isPt]; omega)
      · refine Ops.gn rfl rfl rfl rfl rfl ?_
        refine Ops.gn rfl rfl rfl rfl rfl ?_
        refine Ops.gu rfl rfl rfl (Dtu.pickF (lk rfl) (lk rfl)) rfl ?_
        refine Ops.u (Dtu.pickF (lk rfl) (lk rfl)) rfl ?_
        refine Ops.u (Dtu.asg (lk rfl)) rfl ?_
        refine Ops.nil ?_
        refine Then.next ?_
        refine Body.ret ?_
        (refine ⟨.inr rfl, _, pk [] rfl, bool_eq ?_, rfl⟩; simp [isPt]; omega)
  · refine Ops.gn rfl rfl rfl rfl rfl ?_
    refine Ops.gn rfl rfl rfl rfl rfl ?_
    refine Ops.u (Dtu.pickF (lk rfl) (lk rfl)) rfl ?_
    refine Ops.u (Dtu.mv (lk rfl)) rfl ?_
    refine Ops.gu rfl rfl rfl (Dtu.mv (lk rfl)) rfl ?_
    refine Ops.gu rfl rfl rfl (Dtu.gtr (lk rfl) (lk rfl)) rfl ?_
    refine Ops.gu rfl rfl rfl (Dtu.mv (lk rfl)) rfl ?_
    refine Ops.decP 12 rfl (fun hy => absurd hy (by first | omega | assumption | decide)) (fun _ => ?_)
    refine Ops.gn rfl rfl rfl rfl rfl ?_
    refine Ops.gn rfl rfl rfl rfl rfl ?_
    refine Ops.gu rfl rfl rfl (Dtu.pickF (lk rfl) (lk rfl)) rfl ?_
    refine Ops.u (Dtu.pickF (lk rfl) (lk rfl)) rfl ?_
    refine Ops.u (Dtu.asg (lk rfl)) rfl ?_
    refine Ops.nil ?_
    refine Then.next ?_
    refine Body.ret ?_
    (refine ⟨.inr rfl, _, pk [] rfl, bool_eq ?_, rfl⟩; simp [isPt]; omega)
/-- the last k bytes of v -/
def tailB (v : Int) (k : Nat) : List Int := (List.range k).map fun j => v / 256 ^ (k - 1 - j) % 256
theorem tailB_succ (v : Int) (k : Nat) : tailB v (k + 1) = [v / 256 ^ k % 256] ++ tailB v k := by
  unfold tailB
  rw [List.range_succ_eq_map, List.map_cons, List.map_map]
  simp only [Nat.add_sub_cancel, Nat.sub_zero, List.cons_append, List.nil_append]
  congr 1
  refine List.map_congr_left fun j hj => ?_
  simp only [Function.comp]
  rw [show k - (j + 1) = k - 1 - j by omega]
theorem tailB_len (v : Int) (k : Nat) : (tailB v k).length = k := by simp [tailB]
end Go.Proofs.Ytijjjdljdjnbaaa
end
section
/- The document's numbers in bytes (longlineref01.Put). -/
namespace Go.Proofs.Ytijjjdljdjnbaaa
set_option maxRecDepth 100000
set_option linter.unusedVariables false
set_option linter.unusedSimpArgs false
open Go.Sx

theorem rput_ok (E : Env) (v : Int) (h0 : 0 ≤ v) (h1 : v < 18446744073709551616) : Does Try.prog 63 #[.int .u64 v] E [] fun r H' => ∃ s, r = s ∧ H' = [osl 5 1 s (sizeS v) ((putL v).map (.int .u8))] := by
  have hz := sizeS_le v
  refine Does.go (args := [.int .u64 v]) _ _ Try.func63 rfl Try.ntmps63 rfl rfl ?_
  refine Body.seq ?_
  refine Body.region ?_
  refine Ops.u (Dtu.asg (lk rfl)) rfl ?_
  refine Ops.nil ?_
  refine Then.next ?_
  refine Body.seq ?_
  refine Body.region ?_
  refine Ops.u (Dtu.asg (lk rfl)) rfl ?_
  refine Ops.nil ?_
  refine Then.next ?_
  refine Body.seq ?_
  refine Body.region ?_
  refine Ops.u (Dtu.mv (lk rfl)) rfl ?_
  refine Ops.u (Dtu.asg (lk rfl)) rfl ?_
  refine Ops.nil ?_
  refine Then.next ?_
  refine Body.seqJ (γ := Value) rfl (fun g => [(3, g)]) (fun g => [osl 5 1 g (sizeS v) ((tailB v (sizeS v)).map (.int .u8))]) (fun _ => True) ?_ ?_
  · refine Body.conseq (H' := [osl 5 1 (.slice none 0 0) 0 []]) (fun w s => osl_nil s) ?_
    refine Body.seq ?_
    refine Body.region ?_
    refine Ops.u (Dtu.asg (lk rfl)) rfl ?_
    refine Ops.nil ?_
    refine Then.next ?_
    refine Body.block ?_
    refine Body.loopF (γ := Nat × Value) rfl (fun g => [(5, .int .i64 g.1), (4, .int .u64 (v / 256 ^ g.1)), (3, g.2)]) (fun g => [osl 5 1 g.2 g.1 ((tailB v g.1).map (.int .u8))]) (fun g => g.1 ≤ sizeS v) (fun g => sizeS v - g.1) (0, .slice none 0 0) (by simp) ⟨rfl, int_eq (by simp), rfl, trivial⟩ rfl ?_
    rintro ⟨k, o⟩ u hk
    dsimp only at hk ⊢
    have hq : 0 ≤ v / 256 ^ k := Int.ediv_nonneg h0 (Int.pow_nonneg (by omega))
    have hq2 : v / 256 ^ k ≤ v := Int.ediv_le_self _ h0
    refine Body.seq ?_
    refine Body.seq ?_
    refine Body.region ?_
    refine Ops.u (Dtu.mv (lk rfl)) rfl ?_
    refine Ops.u (Dtu.mv (lk rfl)) rfl ?_
    refine Ops.s (Stp.call rfl Try.call105 (lks rfl) (fun E' le hat => rsize_ok E' _) ?_) rfl
    rintro _ _ ⟨rfl, rfl⟩
    refine Ops.u (Dtu.lss (lk rfl) (lk rfl)) rfl ?_
    refine Ops.nil ?_
    refine Then.next ?_
    refine Body.condP (lk rfl) (fun c12 => ?_) (fun c12 => ?_)
    · refine Body.skip ?_
      refine Then.next ?_
      refine Body.seq ?_
      refine Body.block ?_
      refine Body.seq ?_
      refine Body.region ?_
      refine Ops.u (Dtu.mv (lk rfl)) rfl ?_
      refine Ops.u (Dtu.rem (lk rfl) (lk rfl) (by first | decide | omega) rfl) rfl ?_
      refine Ops.u (Dtu.cvt Try.underlying75 Try.underlying5 (lk rfl) rfl) rfl ?_
      refine Ops.s (Stp.buildSliceO Try.underlying32 ty5 (by decide) (by decide) (lkp rfl) rfl rfl rfl (by decide) (fun v18 => ?_)) rfl
      refine Ops.u (Dtu.mv (lk rfl)) rfl ?_
      refine Ops.s (Stp.append 0 Try.underlying32 ty5 rfl rfl (lk rfl) (lk rfl) (Sl.osl 1 rfl) (by first | rfl | exact all_map (fun _ => rfl) _ | exact all_flat (fun _ => rfl) _) (by omega) (by omega) (fun v20 => ?_)) rfl
      refine Ops.u (Dtu.asg (lk rfl)) rfl ?_
      refine Ops.nil ?_
      refine Then.next ?_
      refine Body.region ?_
      refine Ops.u (Dtu.mv (lk rfl)) rfl ?_
      refine Ops.u (Dtu.quo (lk rfl) (lk rfl) (by first | decide | omega) rfl) rfl ?_
      refine Ops.u (Dtu.asg (lk rfl)) rfl ?_
      refine Ops.nil ?_
      refine Blk.norm ?_
      refine Then.next ?_
      refine Body.region ?_
      refine Ops.u (Dtu.mv (lk rfl)) rfl ?_
      refine Ops.u (Dtu.add (lk rfl) (lk rfl) (w64 (by omega) (by omega))) rfl ?_
      refine Ops.u (Dtu.asg (lk rfl)) rfl ?_
      refine Ops.nil ?_
      refine Round.goK [0] (k + 1, v20) rfl rfl rfl ⟨int_eq (by simp), int_eq ?_, rfl, trivial⟩ rfl ?_ (by dsimp only; omega) (by dsimp only; omega)
      · dsimp only
        rw [Int.pow_succ, ← Int.ediv_ediv_of_nonneg (Int.pow_nonneg (by omega)), Int.tdiv_eq_ediv_of_nonneg hq]
        exact wu64 (by omega) (by omega)
      · dsimp only
        rw [tailB_succ, Nat.add_comm 1 k, Int.tmod_eq_emod_of_nonneg hq, wrap_u8, Int.emod_emod_of_dvd _ (by decide)]
        rfl
    · obtain rfl : k = sizeS v := by omega
      refine Body.exit ?_
      refine Then.exit ?_
      refine Round.exit ?_
      refine Blk.here ?_
      exact Joint.goK [0] o rfl rfl rfl ⟨rfl, trivial⟩ rfl rfl trivial
  · intro o u _
    refine Body.seq ?_
    refine Body.region ?_
    refine Ops.u (Dtu.asg (lk rfl)) rfl ?_
    refine Ops.nil ?_
    refine Then.next ?_
    refine Body.seq ?_
    refine Body.seq ?_
    refine Body.region ?_
    refine Ops.u (Dtu.mv (lk rfl)) rfl ?_
    refine Ops.s (Stp.call rfl Try.call105 (lks rfl) (fun E' le hat => rsize_ok E' _) ?_) rfl
    rintro _ _ ⟨rfl, rfl⟩
    refine Ops.u (Dtu.asg (lk rfl)) rfl ?_
    refine Ops.nil ?_
    refine Then.next ?_
    refine Body.block ?_
    refine Body.loopF (γ := Nat) rfl (fun i => [(7, .int .i64 ((sizeS v / 2 ^ i : Nat) : Int)), (6, .int .u8 (64 * (i : Int)))]) (fun _ => [osl 5 1 o (sizeS v) ((tailB v (sizeS v)).map (.int .u8))]) (fun i => i ≤ 3 ∧ ∀ j, j < i → 1 < sizeS v / 2 ^ j) (fun i => 3 - i) 0 ⟨by omega, fun j hj => by omega⟩ ⟨int_eq (by simp), int_eq (by simp), trivial⟩ rfl ?_
    rintro i u2 ⟨hi, hj⟩
    refine Body.seq ?_
    refine Body.seq ?_
    refine Body.region ?_
    refine Ops.u (Dtu.mv (lk rfl)) rfl ?_
    refine Ops.u (Dtu.gtr (lk rfl) (lk rfl)) rfl ?_
    refine Ops.nil ?_
    refine Then.next ?_
    refine Body.condP (lk rfl) (fun c26 => ?_) (fun c26 => ?_)
    · have hi2 : i ≤ 2 := by
        by_cases e : i = 3
        · subst e; omega
        · omega
      have hq3 : IntKind.i64.wrap (((sizeS v / 2 ^ i : Nat) : Int).tdiv 2) = ((sizeS v / 2 ^ i / 2 : Nat) : Int) := by
        have hd := Nat.div_le_self (sizeS v) (2 ^ i)
        generalize sizeS v / 2 ^ i = q at hd ⊢
        rw [Int.tdiv_eq_ediv_of_nonneg (by omega), w64 (by omega) (by omega)]; omega
      refine Body.skip ?_
      refine Then.next ?_
      refine Body.seq ?_
      refine Body.block ?_
      refine Body.region ?_
      refine Ops.u (Dtu.mv (lk rfl)) rfl ?_
      refine Ops.u (Dtu.add (lk rfl) (lk rfl) (wu8 (by omega) (by omega))) rfl ?_
      refine Ops.u (Dtu.asg (lk rfl)) rfl ?_
      refine Ops.nil ?_
      refine Blk.norm ?_
      refine Then.next ?_
      refine Body.region ?_
      refine Ops.u (Dtu.mv (lk rfl)) rfl ?_
      refine Ops.u (Dtu.quo (lk rfl) (lk rfl) (by first | decide | omega) (by with_reducible assumption)) rfl ?_
      refine Ops.u (Dtu.asg (lk rfl)) rfl ?_
      refine Ops.nil ?_
      refine Round.goK [0] (i + 1) rfl rfl rfl ⟨int_eq ?_, int_eq (by omega), trivial⟩ rfl rfl ⟨by omega, fun j hj2 => ?_⟩ (by omega)
      · rw [Nat.pow_succ, ← Nat.div_div_eq_div_mul]
      · by_cases e : j = i
        · subst e; omega
        · exact hj j (by omega)
    · have hcl : sizeS v ≠ 0 → i = classS v := fun h => by
        obtain ⟨h4, hs⟩ := class_of_size h
        rw [hs] at c26 hj
        generalize classS v = c at *
        have hci : ¬ i < c := fun h => by
          have : 2 ≤ 2 ^ c / 2 ^ i := by
            rw [Nat.pow_div (by omega) (by omega)]
            exact Nat.le_self_pow (by omega) 2
          omega
        have hic : ¬ c < i := fun h => by
          have := hj c h
          rw [Nat.div_self (Nat.two_pow_pos c)] at this
          omega
        omega
      have tl := tailB_len v (sizeS v)
      refine Body.exit ?_
      refine Then.exit ?_
      refine Round.exit ?_
      refine Blk.here ?_
      refine Then.next ?_
      refine Body.seq ?_
      refine Body.seq ?_
      refine Body.region ?_
      refine Ops.u (Dtu.mv (lk rfl)) rfl ?_
      refine Ops.u (Dtu.lenS Try.underlying32 (Sl.osl 0 rfl) (lk rfl)) rfl ?_
      refine Ops.u (Dtu.gtr (lk rfl) (lk rfl)) rfl ?_
      refine Ops.nil ?_
      refine Then.next ?_
      refine Body.condP (lk rfl) (fun c33 => ?_) (fun c33 => ?_)
      · have hzz : sizeS v ≠ 0 := by omega
        obtain ⟨hb0, hb1⟩ := byte0_lt v h0 hzz
        have ht0 : (tailB v (sizeS v))[0]! = byteAt v (sizeS v) 0 := by
          rw [getElem!_pos _ 0 (by omega)]; simp [tailB, byteAt]
        refine Body.region ?_
        refine Ops.u (Dtu.mv (lk rfl)) rfl ?_
        refine Ops.u (Dtu.mv (lk rfl)) rfl ?_
        refine Ops.u (Dtu.ix (i := 0) Try.underlying32 Try.sizeOf5 (Sl.osl 0 rfl) (lk rfl) (lk rfl) (by omega) (by omega)) rfl ?_
        refine Ops.d (Det.ld Try.isAgg5 (lk rfl) (Rd.sl (Sl.osl 0 rfl) (gm (by omega)))) rfl ?_
        refine Ops.u (Dtu.mv (lk rfl)) rfl ?_
        refine Ops.u (Dtu.add (lk rfl) (lk rfl) (wu8 (by omega) (by omega))) rfl ?_
        refine Ops.u (Dtu.ix (i := 0) Try.underlying32 Try.sizeOf5 (Sl.osl 0 rfl) (lk rfl) (lk rfl) (by omega) (by omega)) rfl ?_
        refine Ops.e (Stp.storeM 0 Try.sizeOf5 rfl (lk rfl) (lk rfl) (fun _ => rfl) rfl (by omega) rfl ?_)
        refine Ops.nil ?_
        refine Then.next ?_
        refine Body.seq ?_
        refine Body.region ?_
        refine Ops.u (Dtu.mv (lk rfl)) rfl ?_
        refine Ops.u (Dtu.asg (lk rfl)) rfl ?_
        refine Ops.nil ?_
        refine Then.next ?_
        refine Body.ret ?_
        refine ⟨.inr rfl, _, pk [0] rfl, o, rfl, ?_⟩
        have e0 : (tailB v (sizeS v)).set 0 ((tailB v (sizeS v))[0]! + 64 * (i : Int)) = putL v := by
          rw [ht0, hcl hzz]
          refine List.ext_getElem (by simp [tl, putL_len]) fun j hj1 hj2 => ?_
          rw [List.getElem_set]
          simp only [putL, tailB, List.getElem_map, List.getElem_range, byteAt]
          split
          · next h => subst h; rfl
          · next h => rw [if_neg (by omega)]; omega
        exact congrArg (fun l => [osl 5 1 o (sizeS v) (l.map (.int .u8))]) e0
      · refine Body.skip ?_
        refine Then.next ?_
        refine Body.seq ?_
        refine Body.region ?_
        refine Ops.u (Dtu.mv (lk rfl)) rfl ?_
        refine Ops.u (Dtu.asg (lk rfl)) rfl ?_
        refine Ops.nil ?_
        refine Then.next ?_
        refine Body.ret ?_
        have hp : putL v = [] := List.length_eq_zero_iff.1 (by rw [putL_len]; omega)
        have ht : tailB v (sizeS v) = [] := List.length_eq_zero_iff.1 (by omega)
        exact ⟨.inr rfl, _, pk [0] rfl, o, rfl, by rw [hp, ht]⟩
end Go.Proofs.Ytijjjdljdjnbaaa
end
section
/- The document's numbers out of bytes (longlineref01.Get). -/
namespace Go.Proofs.Ytijjjdljdjnbaaa
set_option maxRecDepth 100000
set_option linter.unusedVariables false
set_option linter.unusedSimpArgs false
open Go.Sx

theorem sizeS_many {v : Int} {k : Nat} (hk : k < 4) (h : v < 64 * 256 ^ (2 ^ k - 1)) : sizeS v ≤ 2 ^ k := by
  have hc : k = 0 ∨ k = 1 ∨ k = 2 ∨ k = 3 := by omega
  by_cases a : v < 64
  · rw [sizeS_is v 1 (by omega)]; exact Nat.one_le_two_pow
  · by_cases b : v < 16384
    · rw [sizeS_is v 2 (by omega)]; rcases hc with rfl | rfl | rfl | rfl <;> simp at h ⊢ <;> omega
    · by_cases c : v < 1073741824
      · rw [sizeS_is v 4 (by omega)]; rcases hc with rfl | rfl | rfl | rfl <;> simp at h ⊢ <;> omega
      · by_cases d : v < 4611686018427387904
        · rw [sizeS_is v 8 (by omega)]; rcases hc with rfl | rfl | rfl | rfl <;> simp at h ⊢ <;> omega
        · rw [sizeS_is v 0 (by omega)]; exact Nat.zero_le _
theorem rget_ok (E : Env) (b : Value) (bs : List Int) (p : Int) (h : Sl E [] 1 b bs.length (bs.map (.int .u8))) (hb : Byt bs) : Does Try.prog 66 #[b, .int .i64 p] E [] fun r H' =>
    r = .tuple #[.int .u64 (getS bs p).1, .int .i64 (getS bs p).2.1, .int .i64 (getS bs p).2.2] ∧ H' = [] := by
  refine Does.pure h.len fun hlen => ?_
  refine Does.go (args := [b, .int .i64 p]) _ _ Try.func66 rfl Try.ntmps66 rfl rfl ?_
  refine Body.seq ?_
  refine Body.region ?_
  refine Ops.u (Dtu.asg (lk rfl)) rfl ?_
  refine Ops.u (Dtu.asg (lk rfl)) rfl ?_
  refine Ops.u (Dtu.asg (lk rfl)) rfl ?_
  refine Ops.nil ?_
  refine Then.next ?_
  refine Body.seq ?_
  refine Body.seq ?_
  refine Body.region ?_
  refine Ops.u (Dtu.mv (lk rfl)) rfl ?_
  refine Ops.u (Dtu.lss (lk rfl) (lk rfl)) rfl ?_
  refine Ops.u (Dtu.mv (lk rfl)) rfl ?_
  refine Ops.decP 13 rfl (fun c13 => ?_) (fun c13 => ?_)
  · refine Ops.gn rfl rfl rfl rfl rfl ?_
    refine Ops.gn rfl rfl rfl rfl rfl ?_
    refine Ops.gn rfl rfl rfl rfl rfl ?_
    refine Ops.gn rfl rfl rfl rfl rfl ?_
    refine Ops.u (Dtu.pickT (lk rfl) (lk rfl)) rfl ?_
    refine Ops.nil ?_
    refine Then.next ?_
    refine Body.condT (lk rfl) ?_
    refine Body.seq ?_
    refine Body.region ?_
    refine Ops.u (Dtu.asg (lk rfl)) rfl ?_
    refine Ops.u (Dtu.asg (lk rfl)) rfl ?_
    refine Ops.u (Dtu.asg (lk rfl)) rfl ?_
    refine Ops.nil ?_
    refine Then.next ?_
    refine Body.ret ?_
    refine Then.ret ?_
    refine ⟨.inr rfl, _, pk [] rfl, ?_, rfl⟩
    unfold getS; rw [if_pos (by omega)]; rfl
  · refine Ops.gu rfl rfl rfl (Dtu.mv (lk rfl)) rfl ?_
    refine Ops.gu rfl rfl rfl (Dtu.mv (lk rfl)) rfl ?_
    refine Ops.gu rfl rfl rfl (Dtu.lenS Try.underlying32 (Sl.up h) (lk rfl)) rfl ?_
    refine Ops.gu rfl rfl rfl (Dtu.gtr (lk rfl) (lk rfl)) rfl ?_
    refine Ops.u (Dtu.pickF (lk rfl) (lk rfl)) rfl ?_
    refine Ops.nil ?_
    refine Then.next ?_
    refine Body.condP (lk rfl) (fun c18 => ?_) (fun c18 => ?_)
    · refine Body.seq ?_
      refine Body.region ?_
      refine Ops.u (Dtu.asg (lk rfl)) rfl ?_
      refine Ops.u (Dtu.asg (lk rfl)) rfl ?_
      refine Ops.u (Dtu.asg (lk rfl)) rfl ?_
      refine Ops.nil ?_
      refine Then.next ?_
      refine Body.ret ?_
      refine Then.ret ?_
      refine ⟨.inr rfl, _, pk [] rfl, ?_, rfl⟩
      unfold getS; rw [if_pos (by omega)]; rfl
    · refine Body.skip ?_
      refine Then.next ?_
      refine Body.seq ?_
      refine Body.seq ?_
      refine Body.region ?_
      refine Ops.u (Dtu.mv (lk rfl)) rfl ?_
      refine Ops.u (Dtu.mv (lk rfl)) rfl ?_
      refine Ops.u (Dtu.lenS Try.underlying32 (Sl.up h) (lk rfl)) rfl ?_
      refine Ops.u (Dtu.eql (lk rfl) (lk rfl)) rfl ?_
      refine Ops.nil ?_
      refine Then.next ?_
      refine Body.condP (lk rfl) (fun c22 => ?_) (fun c22 => ?_)
      · refine Body.seq ?_
        refine Body.region ?_
        refine Ops.u (Dtu.asg (lk rfl)) rfl ?_
        refine Ops.u (Dtu.asg (lk rfl)) rfl ?_
        refine Ops.u (Dtu.asg (lk rfl)) rfl ?_
        refine Ops.nil ?_
        refine Then.next ?_
        refine Body.ret ?_
        refine Then.ret ?_
        refine ⟨.inr rfl, _, pk [] rfl, ?_, rfl⟩
        unfold getS; rw [if_neg (by omega), if_pos (by omega)]; rfl
      · obtain ⟨q, rfl⟩ := Int.eq_ofNat_of_zero_le (show 0 ≤ p by omega)
        have hq : q < bs.length := by omega
        obtain ⟨g0, g1⟩ := hb q hq
        obtain ⟨c, hc⟩ : ∃ c : Nat, bs[q]! = (c : Int) := ⟨_, (Int.toNat_of_nonneg g0).symm⟩
        have hc2 : c < 256 := by omega
        have hc4 : c / 64 < 4 := by omega
        have em : manyS bs[q]! = 2 ^ (c / 64) := by unfold manyS; rw [hc]; congr 1
        have hm1 : 2 ^ (c / 64) ≤ 8 ∧ 1 ≤ 2 ^ (c / 64) := ⟨Nat.pow_le_pow_right (n := 2) (j := 3) (by omega) (by omega), Nat.one_le_two_pow⟩
        have e6 : IntKind.u8.wrap (bs[q]!.tdiv 64) = ((c / 64 : Nat) : Int) := by
          rw [hc, Int.tdiv_eq_ediv_of_nonneg (by omega), wrap_u8]; omega
        refine Body.skip ?_
        refine Then.next ?_
        refine Body.seq ?_
        refine Body.region ?_
        refine Ops.u (Dtu.asg (lk rfl)) rfl ?_
        refine Ops.nil ?_
        refine Then.next ?_
        refine Body.seq ?_
        refine Body.seq ?_
        refine Body.region ?_
        refine Ops.u (Dtu.asg (lk rfl)) rfl ?_
        refine Ops.nil ?_
        refine Then.next ?_
        refine Body.block ?_
        refine Body.loopF (γ := Nat) rfl (fun i => [(8, .int .u8 i), (7, .int .i64 ((2 ^ i : Nat) : Int))]) (fun _ => []) (fun i => i ≤ c / 64) (fun i => c / 64 - i) 0 (by omega) ⟨rfl, rfl, trivial⟩ rfl ?_
        rintro i u hi
        have e7 : IntKind.i64.wrap (2 * ((2 ^ i : Nat) : Int)) = ((2 ^ (i + 1) : Nat) : Int) := by
          have : 2 ^ i ≤ 8 := Nat.pow_le_pow_right (n := 2) (j := 3) (by omega) (by omega)
          generalize hw : 2 ^ i = w at this ⊢
          rw [w64 (by omega) (by omega), Nat.pow_succ, hw]; omega
        refine Body.seq ?_
        refine Body.seq ?_
        refine Body.region ?_
        refine Ops.u (Dtu.mv (lk rfl)) rfl ?_
        refine Ops.u (Dtu.mv (lk rfl)) rfl ?_
        refine Ops.u (Dtu.mv (lk rfl)) rfl ?_
        refine Ops.u (Dtu.ix (i := (q)) Try.underlying32 Try.sizeOf5 (Sl.up h) (lk rfl) (lk rfl) (by omega) (by omega)) rfl ?_
        refine Ops.d (Det.ld Try.isAgg5 (lk rfl) (Rd.sl (Sl.up h) (gm (by omega)))) rfl ?_
        refine Ops.u (Dtu.quo (lk rfl) (lk rfl) (by first | decide | omega) (by with_reducible assumption)) rfl ?_
        refine Ops.u (Dtu.lss (lk rfl) (lk rfl)) rfl ?_
        refine Ops.nil ?_
        refine Then.next ?_
        refine Body.condP (lk rfl) (fun c29 => ?_) (fun c29 => ?_)
        · refine Body.skip ?_
          refine Then.next ?_
          refine Body.seq ?_
          refine Body.block ?_
          refine Body.region ?_
          refine Ops.u (Dtu.mv (lk rfl)) rfl ?_
          refine Ops.u (Dtu.mul (lk rfl) (lk rfl) (by with_reducible assumption)) rfl ?_
          refine Ops.u (Dtu.asg (lk rfl)) rfl ?_
          refine Ops.nil ?_
          refine Blk.norm ?_
          refine Then.next ?_
          refine Body.region ?_
          refine Ops.u (Dtu.mv (lk rfl)) rfl ?_
          refine Ops.u (Dtu.add (lk rfl) (lk rfl) (wu8 (by omega) (by omega))) rfl ?_
          refine Ops.u (Dtu.asg (lk rfl)) rfl ?_
          refine Ops.nil ?_
          exact Round.goF (i + 1) rfl rfl rfl ⟨int_eq (by omega), int_eq rfl, trivial⟩ rfl (by omega) (by omega)
        · obtain rfl : i = c / 64 := by omega
          generalize hN : 2 ^ (c / 64) = N at *
          refine Body.exit ?_
          refine Then.exit ?_
          refine Round.exit ?_
          refine Blk.here ?_
          refine Then.next ?_
          refine Body.seq ?_
          refine Body.seq ?_
          refine Body.region ?_
          refine Ops.u (Dtu.mv (lk rfl)) rfl ?_
          refine Ops.u (Dtu.mv (lk rfl)) rfl ?_
          refine Ops.u (Dtu.lenS Try.underlying32 (Sl.up h) (lk rfl)) rfl ?_
          refine Ops.u (Dtu.mv (lk rfl)) rfl ?_
          refine Ops.u (Dtu.sub (lk rfl) (lk rfl) (w64 (by omega) (by omega))) rfl ?_
          refine Ops.u (Dtu.gtr (lk rfl) (lk rfl)) rfl ?_
          refine Ops.nil ?_
          refine Then.next ?_
          refine Body.condP (lk rfl) (fun c39 => ?_) (fun c39 => ?_)
          · refine Body.seq ?_
            refine Body.region ?_
            refine Ops.u (Dtu.asg (lk rfl)) rfl ?_
            refine Ops.u (Dtu.asg (lk rfl)) rfl ?_
            refine Ops.u (Dtu.asg (lk rfl)) rfl ?_
            refine Ops.nil ?_
            refine Then.next ?_
            refine Body.ret ?_
            refine Then.ret ?_
            refine ⟨.inr rfl, _, pk [] rfl, ?_, rfl⟩
            unfold getS; rw [if_neg (by omega), if_neg (by omega), if_pos (by simp only [Int.toNat_natCast]; omega)]; rfl
          · have hyl : ((bs.drop (q + 1)).take (N - 1)).length = N - 1 := by simp; omega
            have hyb : ∀ i, i < N - 1 → ((bs.drop (q + 1)).take (N - 1))[i]! = bs[q + (i + 1)]! := fun i hi => by
              rw [getElem!_pos _ _ (by omega), getElem!_pos _ _ (by omega)]
              simp only [List.getElem_take, List.getElem_drop]
              congr 1; omega
            have hget : getS bs (q : Int) = (let v := foldB ((c : Int) % 64) ((bs.drop (q + 1)).take (N - 1)); if sizeS v ≠ N then (0, 0, 3) else (v, (q : Int) + N, 0)) := by
              unfold getS
              rw [if_neg (by omega), if_neg (by omega), if_neg (by simp only [Int.toNat_natCast]; omega)]
              have em' := em
              rw [hc] at em'
              simp only [Int.toNat_natCast, hc, em']
            generalize hys : (bs.drop (q + 1)).take (N - 1) = ys at *
            have e9 : IntKind.u64.wrap (bs[q]!.tmod 64) = (c : Int) % 64 := by
              rw [hc, Int.tmod_eq_emod_of_nonneg (by omega), wu64 (by omega) (by omega)]
            refine Body.skip ?_
            refine Then.next ?_
            refine Body.seq ?_
            refine Body.region ?_
            refine Ops.u (Dtu.mv (lk rfl)) rfl ?_
            refine Ops.u (Dtu.mv (lk rfl)) rfl ?_
            refine Ops.u (Dtu.ix (i := (q)) Try.underlying32 Try.sizeOf5 (Sl.up h) (lk rfl) (lk rfl) (by omega) (by omega)) rfl ?_
            refine Ops.d (Det.ld Try.isAgg5 (lk rfl) (Rd.sl (Sl.up h) (gm (by omega)))) rfl ?_
            refine Ops.u (Dtu.rem (lk rfl) (lk rfl) (by first | decide | omega) rfl) rfl ?_
            refine Ops.u (Dtu.cvt Try.underlying5 Try.underlying75 (lk rfl) (by with_reducible assumption)) rfl ?_
            refine Ops.u (Dtu.asg (lk rfl)) rfl ?_
            refine Ops.nil ?_
            refine Then.next ?_
            refine Body.seq ?_
            refine Body.seq ?_
            refine Body.region ?_
            refine Ops.u (Dtu.asg (lk rfl)) rfl ?_
            refine Ops.nil ?_
            refine Then.next ?_
            refine Body.block ?_
            refine Body.loopF (γ := Nat) rfl (fun i => [(10, .int .i64 ((i : Int) + 1)), (9, .int .u64 (foldB ((c : Int) % 64) (ys.take i)))]) (fun _ => []) (fun i => i ≤ N - 1 ∧ 0 ≤ foldB ((c : Int) % 64) (ys.take i) ∧ foldB ((c : Int) % 64) (ys.take i) < 64 * 256 ^ i) (fun i => N - 1 - i) 0
              ⟨by omega, by simp [foldB]; omega, by simp [foldB]; omega⟩ ⟨rfl, int_eq (by simp [foldB]), trivial⟩ rfl ?_
            rintro i u ⟨hi, hf0, hf1⟩
            refine Body.seq ?_
            refine Body.seq ?_
            refine Body.region ?_
            refine Ops.u (Dtu.mv (lk rfl)) rfl ?_
            refine Ops.u (Dtu.mv (lk rfl)) rfl ?_
            refine Ops.u (Dtu.lss (lk rfl) (lk rfl)) rfl ?_
            refine Ops.nil ?_
            refine Then.next ?_
            refine Body.condP (lk rfl) (fun c48 => ?_) (fun c48 => ?_)
            · have hi6 := pow256 (i := i) (by omega)
              have y0 := hyb i (by omega)
              have yb := hb (q + (i + 1)) (by omega)
              rw [← y0] at yb
              have e4 : IntKind.u64.wrap (256 * foldB ((c : Int) % 64) (ys.take i)) = 256 * foldB ((c : Int) % 64) (ys.take i) := wu64 (by omega) (by omega)
              refine Body.skip ?_
              refine Then.next ?_
              refine Body.seq ?_
              refine Body.block ?_
              refine Body.region ?_
              refine Ops.u (Dtu.mv (lk rfl)) rfl ?_
              refine Ops.u (Dtu.mul (lk rfl) (lk rfl) (by with_reducible assumption)) rfl ?_
              refine Ops.u (Dtu.mv (lk rfl)) rfl ?_
              refine Ops.u (Dtu.mv (lk rfl)) rfl ?_
              refine Ops.u (Dtu.mv (lk rfl)) rfl ?_
              refine Ops.u (Dtu.add (lk rfl) (lk rfl) (w64 (by omega) (by omega))) rfl ?_
              refine Ops.u (Dtu.ix (i := (q + (i + 1))) Try.underlying32 Try.sizeOf5 (Sl.up h) (lk rfl) (lk rfl) (by omega) (by omega)) rfl ?_
              refine Ops.d (Det.ld Try.isAgg5 (lk rfl) (Rd.sl (Sl.up h) (gm (by omega)))) rfl ?_
              refine Ops.u (Dtu.cvt Try.underlying5 Try.underlying75 (lk rfl) (wu64 (by omega) (by omega))) rfl ?_
              refine Ops.u (Dtu.add (lk rfl) (lk rfl) (wu64 (by omega) (by omega))) rfl ?_
              refine Ops.u (Dtu.asg (lk rfl)) rfl ?_
              refine Ops.nil ?_
              refine Blk.norm ?_
              refine Then.next ?_
              refine Body.region ?_
              refine Ops.u (Dtu.mv (lk rfl)) rfl ?_
              refine Ops.u (Dtu.add (lk rfl) (lk rfl) (w64 (by omega) (by omega))) rfl ?_
              refine Ops.u (Dtu.asg (lk rfl)) rfl ?_
              refine Ops.nil ?_
              have hsn : foldB ((c : Int) % 64) (ys.take (i + 1)) = foldB ((c : Int) % 64) (ys.take i) * 256 + ys[i]! := by rw [take_snoc (by omega), foldB_snoc]
              refine Round.goF (i + 1) rfl rfl rfl ⟨int_eq (by omega), ?_, trivial⟩ rfl ⟨by omega, by omega, ?_⟩ (by omega)
              · rw [hsn]; refine int_eq ?_; rw [y0]; omega
              · rw [hsn, Int.pow_succ]; omega
            · obtain rfl : i = N - 1 := by omega
              have ht : ys.take (N - 1) = ys := List.take_of_length_le (by omega)
              rw [ht] at hf0 hf1
              simp only [ht]
              have hmn := sizeS_many hc4 (by rw [hN]; exact hf1)
              refine Body.exit ?_
              refine Then.exit ?_
              refine Round.exit ?_
              refine Blk.here ?_
              refine Then.next ?_
              refine Body.seq ?_
              refine Body.seq ?_
              refine Body.region ?_
              refine Ops.u (Dtu.mv (lk rfl)) rfl ?_
              refine Ops.s (Stp.call rfl Try.call105 (lks rfl) (fun E' le hat => rsize_ok E' _) ?_) rfl
              rintro _ _ ⟨rfl, rfl⟩
              refine Ops.u (Dtu.mv (lk rfl)) rfl ?_
              refine Ops.u (Dtu.lss (lk rfl) (lk rfl)) rfl ?_
              refine Ops.nil ?_
              refine Then.next ?_
              refine Body.condP (lk rfl) (fun c64 => ?_) (fun c64 => ?_)
              · refine Body.seq ?_
                refine Body.region ?_
                refine Ops.u (Dtu.asg (lk rfl)) rfl ?_
                refine Ops.u (Dtu.asg (lk rfl)) rfl ?_
                refine Ops.u (Dtu.asg (lk rfl)) rfl ?_
                refine Ops.nil ?_
                refine Then.next ?_
                refine Body.ret ?_
                refine Then.ret ?_
                refine ⟨.inr rfl, _, pk [] rfl, ?_, rfl⟩
                rw [hget]; dsimp only; rw [if_pos (by omega)]; rfl
              · refine Body.skip ?_
                refine Then.next ?_
                refine Body.seq ?_
                refine Body.region ?_
                refine Ops.u (Dtu.mv (lk rfl)) rfl ?_
                refine Ops.u (Dtu.mv (lk rfl)) rfl ?_
                refine Ops.u (Dtu.mv (lk rfl)) rfl ?_
                refine Ops.u (Dtu.add (lk rfl) (lk rfl) (w64 (by omega) (by omega))) rfl ?_
                refine Ops.u (Dtu.asg (lk rfl)) rfl ?_
                refine Ops.u (Dtu.asg (lk rfl)) rfl ?_
                refine Ops.u (Dtu.asg (lk rfl)) rfl ?_
                refine Ops.nil ?_
                refine Then.next ?_
                refine Body.ret ?_
                refine ⟨.inr rfl, _, pk [] rfl, ?_, rfl⟩
                rw [hget]; dsimp only; rw [if_neg (by omega)]; rfl
end Go.Proofs.Ytijjjdljdjnbaaa
end
section
/- The document's styles (longlineref16). -/
namespace Go.Proofs.Ytijjjdljdjnbaaa
set_option maxRecDepth 100000
set_option linter.unusedVariables false
set_option linter.unusedSimpArgs false
open Go.Sx

theorem risColour_ok (E : Env) (c : Int) (h0 : 0 ≤ c) (h1 : c < 4294967296) : Does Try.prog 118 #[.int .u32 c] E [] fun r H' => r = .bool (isCol c) ∧ H' = [] := by
  refine Does.go (args := [.int .u32 c]) _ _ Try.func118 rfl Try.ntmps118 rfl rfl ?_
  have e1 : IntKind.u32.wrap (c.tdiv 16777216) = c / 16777216 := by
    rw [Int.tdiv_eq_ediv_of_nonneg h0, wu32 (by omega) (by omega)]
  have e2 : IntKind.u32.wrap (c.tmod 16777216) = c % 16777216 := by
    rw [Int.tmod_eq_emod_of_nonneg h0, wu32 (by omega) (by omega)]
  have e3 := Int.tmod_eq_emod_of_nonneg (b := 16777216) h0
  refine Body.seq ?_
  refine Body.region ?_
  refine Ops.u (Dtu.asg (lk rfl)) rfl ?_
  refine Ops.nil ?_
  refine Then.next ?_
  refine Body.seq ?_
  refine Body.region ?_
  refine Ops.u (Dtu.mv (lk rfl)) rfl ?_
  refine Ops.u (Dtu.eql (lk rfl) (lk rfl)) rfl ?_
  refine Ops.u (Dtu.mv (lk rfl)) rfl ?_
  refine Ops.decP 5 rfl (fun c5 => ?_) (fun c5 => ?_)
  · refine Ops.gn rfl rfl rfl rfl rfl ?_
    refine Ops.gn rfl rfl rfl rfl rfl ?_
    refine Ops.gn rfl rfl rfl rfl rfl ?_
    refine Ops.gn rfl rfl rfl rfl rfl ?_
    refine Ops.gn rfl rfl rfl rfl rfl ?_
    refine Ops.gn rfl rfl rfl rfl rfl ?_
    refine Ops.gn rfl rfl rfl rfl rfl ?_
    refine Ops.gn rfl rfl rfl rfl rfl ?_
    refine Ops.u (Dtu.pickT (lk rfl) (lk rfl)) rfl ?_
    refine Ops.u (Dtu.mv (lk rfl)) rfl ?_
    refine Ops.gn rfl rfl rfl rfl rfl ?_
    refine Ops.gn rfl rfl rfl rfl rfl ?_
    refine Ops.gn rfl rfl rfl rfl rfl ?_
    refine Ops.u (Dtu.pickT (lk rfl) (lk rfl)) rfl ?_
    refine Ops.u (Dtu.asg (lk rfl)) rfl ?_
    refine Ops.nil ?_
    refine Then.next ?_
    refine Body.ret ?_
    (refine ⟨.inr rfl, _, pk [] rfl, bool_eq ?_, rfl⟩; simp [isCol]; omega)
  · refine Ops.gu rfl rfl rfl (Dtu.mv (lk rfl)) rfl ?_
    refine Ops.gu rfl rfl rfl (Dtu.quo (lk rfl) (lk rfl) (by first | decide | omega) (by with_reducible assumption)) rfl ?_
    refine Ops.gu rfl rfl rfl (Dtu.eql (lk rfl) (lk rfl)) rfl ?_
    refine Ops.gu rfl rfl rfl (Dtu.mv (lk rfl)) rfl ?_
    refine Ops.decP 9 rfl (fun c9 => ?_) (fun c9 => ?_)
    · refine Ops.gu rfl rfl rfl (Dtu.mv (lk rfl)) rfl ?_
      refine Ops.gu rfl rfl rfl (Dtu.rem (lk rfl) (lk rfl) (by first | decide | omega) rfl) rfl ?_
      refine Ops.gu rfl rfl rfl (Dtu.lss (lk rfl) (lk rfl)) rfl ?_
      refine Ops.gu rfl rfl rfl (Dtu.pickT (lk rfl) (lk rfl)) rfl ?_
      refine Ops.u (Dtu.pickF (lk rfl) (lk rfl)) rfl ?_
      refine Ops.u (Dtu.mv (lk rfl)) rfl ?_
      refine Ops.decP 15 rfl (fun c15 => ?_) (fun c15 => ?_)
      · refine Ops.gn rfl rfl rfl rfl rfl ?_
        refine Ops.gn rfl rfl rfl rfl rfl ?_
        refine Ops.gn rfl rfl rfl rfl rfl ?_
        refine Ops.u (Dtu.pickT (lk rfl) (lk rfl)) rfl ?_
        refine Ops.u (Dtu.asg (lk rfl)) rfl ?_
        refine Ops.nil ?_
        refine Then.next ?_
        refine Body.ret ?_
        (refine ⟨.inr rfl, _, pk [] rfl, bool_eq ?_, rfl⟩; simp [isCol]; omega)
      · refine Ops.gu rfl rfl rfl (Dtu.mv (lk rfl)) rfl ?_
        refine Ops.gu rfl rfl rfl (Dtu.quo (lk rfl) (lk rfl) (by first | decide | omega) (by with_reducible assumption)) rfl ?_
        refine Ops.gu rfl rfl rfl (Dtu.eql (lk rfl) (lk rfl)) rfl ?_
        refine Ops.u (Dtu.pickF (lk rfl) (lk rfl)) rfl ?_
        refine Ops.u (Dtu.asg (lk rfl)) rfl ?_
        refine Ops.nil ?_
        refine Then.next ?_
        refine Body.ret ?_
        (refine ⟨.inr rfl, _, pk [] rfl, bool_eq ?_, rfl⟩; simp [isCol]; omega)
    · refine Ops.gn rfl rfl rfl rfl rfl ?_
      refine Ops.gn rfl rfl rfl rfl rfl ?_
      refine Ops.gn rfl rfl rfl rfl rfl ?_
      refine Ops.gu rfl rfl rfl (Dtu.pickF (lk rfl) (lk rfl)) rfl ?_
      refine Ops.u (Dtu.pickF (lk rfl) (lk rfl)) rfl ?_
      refine Ops.u (Dtu.mv (lk rfl)) rfl ?_
      refine Ops.gu rfl rfl rfl (Dtu.mv (lk rfl)) rfl ?_
      refine Ops.gu rfl rfl rfl (Dtu.quo (lk rfl) (lk rfl) (by first | decide | omega) (by with_reducible assumption)) rfl ?_
      refine Ops.gu rfl rfl rfl (Dtu.eql (lk rfl) (lk rfl)) rfl ?_
      refine Ops.u (Dtu.pickF (lk rfl) (lk rfl)) rfl ?_
      refine Ops.u (Dtu.asg (lk rfl)) rfl ?_
      refine Ops.nil ?_
      refine Then.next ?_
      refine Body.ret ?_
      (refine ⟨.inr rfl, _, pk [] rfl, bool_eq ?_, rfl⟩; simp [isCol]; omega)
def bit8 (fl : Int) (i : Nat) : Bool := decide (fl / 2 ^ i % 2 = 1)
/-- a style as the document's -/
def rsty (fl fg bg : Int) : List Value := [.bool (bit8 fl 0), .bool (bit8 fl 1), .bool (bit8 fl 2), .bool (bit8 fl 3), .bool (bit8 fl 4), .bool (bit8 fl 5), .bool (bit8 fl 6), .bool (bit8 fl 7), .int .u32 fg, .int .u32 bg]
theorem rstyRight_ok (E : Env) (fl fg bg : Int) (h0 : 0 ≤ fg) (h1 : 0 ≤ bg) (h2 : fg < 4294967296) (h3 : bg < 4294967296) : Does Try.prog 81 #[.agg (rsty fl fg bg).toArray] E [] fun r H' => r = .bool (okSty fg bg) ∧ H' = [] := by
  refine Does.go (args := [.agg (rsty fl fg bg).toArray]) _ _ Try.func81 rfl Try.ntmps81 rfl rfl ?_
  refine Body.seq ?_
  refine Body.region ?_
  refine Ops.s (Stp.box (lk rfl) rfl (fun b1 => ?_)) rfl
  refine Ops.u (Dtu.asg (lk rfl)) rfl ?_
  refine Ops.nil ?_
  refine Then.next ?_
  refine Body.seq ?_
  refine Body.region ?_
  refine Ops.u (Dtu.fld fa63_1 (lk rfl)) rfl ?_
  refine Ops.d (Det.ld Try.isAgg51 (lk rfl) (Rd.ow 0 rfl rfl)) rfl ?_
  refine Ops.s (Stp.call rfl Try.call118 (lks rfl) (fun E' le hat => risColour_ok E' _ (by assumption) (by assumption)) ?_) rfl
  rintro _ _ ⟨rfl, rfl⟩
  refine Ops.u (Dtu.mv (lk rfl)) rfl ?_
  refine Ops.dec 6 rfl (fun c6 => ?_) (fun c6 => ?_)
  · refine Ops.gu rfl rfl rfl (Dtu.fld fa63_2 (lk rfl)) rfl ?_
    refine Ops.gd rfl rfl rfl (Det.ld Try.isAgg51 (lk rfl) (Rd.ow 0 rfl rfl)) rfl ?_
    refine Ops.gs rfl rfl rfl (Stp.call rfl Try.call118 (lks rfl) (fun E' le hat => risColour_ok E' _ (by assumption) (by assumption)) ?_) rfl
    rintro _ _ ⟨rfl, rfl⟩
    refine Ops.u (Dtu.pickT (lk rfl) (lk rfl)) rfl ?_
    refine Ops.u (Dtu.asg (lk rfl)) rfl ?_
    refine Ops.nil ?_
    refine Then.next ?_
    refine Body.ret ?_
    (refine ⟨.inr rfl, _, pk [] rfl, bool_eq ?_, rfl⟩; simp [okSty, *])
  · refine Ops.gn rfl rfl rfl rfl rfl ?_
    refine Ops.gn rfl rfl rfl rfl rfl ?_
    refine Ops.gn rfl rfl rfl rfl rfl ?_
    refine Ops.u (Dtu.pickF (lk rfl) (lk rfl)) rfl ?_
    refine Ops.u (Dtu.asg (lk rfl)) rfl ?_
    refine Ops.nil ?_
    refine Then.next ?_
    refine Body.ret ?_
    (refine ⟨.inr rfl, _, pk [] rfl, bool_eq ?_, rfl⟩; simp [okSty, *])
def ofC (fl : Int) (k : Nat) (fg bg : Int) : List Value := (List.range 8).map (fun j => .bool (if j < k then bit8 fl j else false)) ++ [.int .u32 fg, .int .u32 bg]
theorem rof_ok (E : Env) (fl fg bg : Int) (h0 : 0 ≤ fl) (h1 : fl < 256) : Does Try.prog 117 #[.int .u8 fl, .int .u32 fg, .int .u32 bg] E [] fun r H' => r = .agg (rsty fl fg bg).toArray ∧ H' = [] := by
  refine Does.go (args := [.int .u8 fl, .int .u32 fg, .int .u32 bg]) _ _ Try.func117 rfl Try.ntmps117 rfl rfl ?_
  refine Body.seq ?_
  refine Body.region ?_
  refine Ops.s (Stp.alloc ty63 (fun b6 => ?_)) rfl
  refine Ops.nil ?_
  refine Then.next ?_
  refine Body.seq ?_
  refine Body.region ?_
  refine Ops.u (Dtu.mv (lk rfl)) rfl ?_
  refine Ops.u (Dtu.mv (lk rfl)) rfl ?_
  refine Ops.u (Dtu.build ty63 pl63 (lkp rfl) rfl rfl) rfl ?_
  refine Ops.s (Stp.alloc ty63 (fun b7 => ?_)) rfl
  refine Ops.e (Stp.store 0 Try.sizeOf63 (lk rfl) (lk rfl) rfl rfl rfl rfl rfl rfl rfl ?_)
  refine Ops.nil ?_
  refine Then.next ?_
  refine Body.seq ?_
  refine Body.seq ?_
  refine Body.region ?_
  refine Ops.u (Dtu.asg (lk rfl)) rfl ?_
  refine Ops.nil ?_
  refine Then.next ?_
  refine Body.block ?_
  refine Body.loopF (γ := Nat) rfl (fun i => [(8, .int .i64 i), (0, .int .u8 (fl / 2 ^ i))]) (fun i => [own b7 (ofC fl i fg bg) 63, own b6 (ofC 0 0 0 0) 63]) (fun i => i ≤ 8) (fun i => 8 - i) 0 (by omega) ⟨rfl, int_eq (by simp), trivial⟩ rfl ?_
  rintro i u hi
  refine Body.seq ?_
  refine Body.seq ?_
  refine Body.region ?_
  refine Ops.u (Dtu.mv (lk rfl)) rfl ?_
  refine Ops.u (Dtu.lss (lk rfl) (lk rfl)) rfl ?_
  refine Ops.nil ?_
  refine Then.next ?_
  refine Body.condP (lk rfl) (fun c13 => ?_) (fun c13 => ?_)
  · have hq : 0 ≤ fl / 2 ^ i := Int.ediv_nonneg h0 (Int.pow_nonneg (by omega))
    have hq2 : fl / 2 ^ i ≤ fl := Int.ediv_le_self _ h0
    have hm : (fl / 2 ^ i).tmod 2 = fl / 2 ^ i % 2 := Int.tmod_eq_emod_of_nonneg hq
    have hd : (fl / 2 ^ i).tdiv 2 = fl / 2 ^ (i + 1) := by
      rw [Int.tdiv_eq_ediv_of_nonneg hq, Int.pow_succ, ← Int.ediv_ediv_of_nonneg (Int.pow_nonneg (by omega))]
    obtain rfl | rfl | rfl | rfl | rfl | rfl | rfl | rfl : i = 0 ∨ i = 1 ∨ i = 2 ∨ i = 3 ∨ i = 4 ∨ i = 5 ∨ i = 6 ∨ i = 7 := by omega
    · refine Body.skip ?_
      refine Then.next ?_
      refine Body.seq ?_
      refine Body.block ?_
      refine Body.seq ?_
      refine Body.region ?_
      refine Ops.u (Dtu.mv (lk rfl)) rfl ?_
      refine Ops.u (Dtu.mv (lk rfl)) rfl ?_
      refine Ops.u (Dtu.rem (lk rfl) (lk rfl) (by first | decide | omega) rfl) rfl ?_
      refine Ops.u (Dtu.eql (lk rfl) (lk rfl)) rfl ?_
      refine Ops.u (Dtu.fld fa63_0 (lk rfl)) rfl ?_
      refine Ops.u (Dtu.ixa (i := 0) Try.underlying61 Try.sizeOf4 (lk rfl) (lk rfl) (by omega) (by omega)) rfl ?_
      refine Ops.e (Stp.store 0 Try.sizeOf4 (lk rfl) (lk rfl) rfl rfl rfl rfl rfl rfl rfl ?_)
      refine Ops.nil ?_
      refine Then.next ?_
      refine Body.region ?_
      refine Ops.u (Dtu.mv (lk rfl)) rfl ?_
      refine Ops.u (Dtu.quo (lk rfl) (lk rfl) (by first | decide | omega) (wu8 (by omega) (by omega))) rfl ?_
      refine Ops.u (Dtu.asg (lk rfl)) rfl ?_
      refine Ops.nil ?_
      refine Blk.norm ?_
      refine Then.next ?_
      refine Body.region ?_
      refine Ops.u (Dtu.mv (lk rfl)) rfl ?_
      refine Ops.u (Dtu.add (lk rfl) (lk rfl) (w64 (by omega) (by omega))) rfl ?_
      refine Ops.u (Dtu.asg (lk rfl)) rfl ?_
      refine Ops.nil ?_
      exact Round.goF 1 rfl rfl rfl ⟨rfl, int_eq hd, trivial⟩ (by rw [hm]; rfl) (by decide) (by decide)
    · refine Body.skip ?_
      refine Then.next ?_
      refine Body.seq ?_
      refine Body.block ?_
      refine Body.seq ?_
      refine Body.region ?_
      refine Ops.u (Dtu.mv (lk rfl)) rfl ?_
      refine Ops.u (Dtu.mv (lk rfl)) rfl ?_
      refine Ops.u (Dtu.rem (lk rfl) (lk rfl) (by first | decide | omega) rfl) rfl ?_
      refine Ops.u (Dtu.eql (lk rfl) (lk rfl)) rfl ?_
      refine Ops.u (Dtu.fld fa63_0 (lk rfl)) rfl ?_
      refine Ops.u (Dtu.ixa (i := 1) Try.underlying61 Try.sizeOf4 (lk rfl) (lk rfl) (by omega) (by omega)) rfl ?_
      refine Ops.e (Stp.store 0 Try.sizeOf4 (lk rfl) (lk rfl) rfl rfl rfl rfl rfl rfl rfl ?_)
      refine Ops.nil ?_
      refine Then.next ?_
      refine Body.region ?_
      refine Ops.u (Dtu.mv (lk rfl)) rfl ?_
      refine Ops.u (Dtu.quo (lk rfl) (lk rfl) (by first | decide | omega) (wu8 (by omega) (by omega))) rfl ?_
      refine Ops.u (Dtu.asg (lk rfl)) rfl ?_
      refine Ops.nil ?_
      refine Blk.norm ?_
      refine Then.next ?_
      refine Body.region ?_
      refine Ops.u (Dtu.mv (lk rfl)) rfl ?_
      refine Ops.u (Dtu.add (lk rfl) (lk rfl) (w64 (by omega) (by omega))) rfl ?_
      refine Ops.u (Dtu.asg (lk rfl)) rfl ?_
      refine Ops.nil ?_
      exact Round.goF 2 rfl rfl rfl ⟨rfl, int_eq hd, trivial⟩ (by rw [hm]; rfl) (by decide) (by decide)
    · refine Body.skip ?_
      refine Then.next ?_
      refine Body.seq ?_
      refine Body.block ?_
      refine Body.seq ?_
      refine Body.region ?_
      refine Ops.u (Dtu.mv (lk rfl)) rfl ?_
      refine Ops.u (Dtu.mv (lk rfl)) rfl ?_
      refine Ops.u (Dtu.rem (lk rfl) (lk rfl) (by first | decide | omega) rfl) rfl ?_
      refine Ops.u (Dtu.eql (lk rfl) (lk rfl)) rfl ?_
      refine Ops.u (Dtu.fld fa63_0 (lk rfl)) rfl ?_
      refine Ops.u (Dtu.ixa (i := 2) Try.underlying61 Try.sizeOf4 (lk rfl) (lk rfl) (by omega) (by omega)) rfl ?_
      refine Ops.e (Stp.store 0 Try.sizeOf4 (lk rfl) (lk rfl) rfl rfl rfl rfl rfl rfl rfl ?_)
      refine Ops.nil ?_
      refine Then.next ?_
      refine Body.region ?_
      refine Ops.u (Dtu.mv (lk rfl)) rfl ?_
      refine Ops.u (Dtu.quo (lk rfl) (lk rfl) (by first | decide | omega) (wu8 (by omega) (by omega))) rfl ?_
      refine Ops.u (Dtu.asg (lk rfl)) rfl ?_
      refine Ops.nil ?_
      refine Blk.norm ?_
      refine Then.next ?_
      refine Body.region ?_
      refine Ops.u (Dtu.mv (lk rfl)) rfl ?_
      refine Ops.u (Dtu.add (lk rfl) (lk rfl) (w64 (by omega) (by omega))) rfl ?_
      refine Ops.u (Dtu.asg (lk rfl)) rfl ?_
      refine Ops.nil ?_
      exact Round.goF 3 rfl rfl rfl ⟨rfl, int_eq hd, trivial⟩ (by rw [hm]; rfl) (by decide) (by decide)
    · refine Body.skip ?_
      refine Then.next ?_
      refine Body.seq ?_
      refine Body.block ?_
      refine Body.seq ?_
      refine Body.region ?_
      refine Ops.u (Dtu.mv (lk rfl)) rfl ?_
      refine Ops.u (Dtu.mv (lk rfl)) rfl ?_
      refine Ops.u (Dtu.rem (lk rfl) (lk rfl) (by first | decide | omega) rfl) rfl ?_
      refine Ops.u (Dtu.eql (lk rfl) (lk rfl)) rfl ?_
      refine Ops.u (Dtu.fld fa63_0 (lk rfl)) rfl ?_
      refine Ops.u (Dtu.ixa (i := 3) Try.underlying61 Try.sizeOf4 (lk rfl) (lk rfl) (by omega) (by omega)) rfl ?_
      refine Ops.e (Stp.store 0 Try.sizeOf4 (lk rfl) (lk rfl) rfl rfl rfl rfl rfl rfl rfl ?_)
      refine Ops.nil ?_
      refine Then.next ?_
      refine Body.region ?_
      refine Ops.u (Dtu.mv (lk rfl)) rfl ?_
      refine Ops.u (Dtu.quo (lk rfl) (lk rfl) (by first | decide | omega) (wu8 (by omega) (by omega))) rfl ?_
      refine Ops.u (Dtu.asg (lk rfl)) rfl ?_
      refine Ops.nil ?_
      refine Blk.norm ?_
      refine Then.next ?_
      refine Body.region ?_
      refine Ops.u (Dtu.mv (lk rfl)) rfl ?_
      refine Ops.u (Dtu.add (lk rfl) (lk rfl) (w64 (by omega) (by omega))) rfl ?_
      refine Ops.u (Dtu.asg (lk rfl)) rfl ?_
      refine Ops.nil ?_
      exact Round.goF 4 rfl rfl rfl ⟨rfl, int_eq hd, trivial⟩ (by rw [hm]; rfl) (by decide) (by decide)
    · refine Body.skip ?_
      refine Then.next ?_
      refine Body.seq ?_
      refine Body.block ?_
      refine Body.seq ?_
      refine Body.region ?_
      refine Ops.u (Dtu.mv (lk rfl)) rfl ?_
      refine Ops.u (Dtu.mv (lk rfl)) rfl ?_
      refine Ops.u (Dtu.rem (lk rfl) (lk rfl) (by first | decide | omega) rfl) rfl ?_
      refine Ops.u (Dtu.eql (lk rfl) (lk rfl)) rfl ?_
      refine Ops.u (Dtu.fld fa63_0 (lk rfl)) rfl ?_
      refine Ops.u (Dtu.ixa (i := 4) Try.underlying61 Try.sizeOf4 (lk rfl) (lk rfl) (by omega) (by omega)) rfl ?_
      refine Ops.e (Stp.store 0 Try.sizeOf4 (lk rfl) (lk rfl) rfl rfl rfl rfl rfl rfl rfl ?_)
      refine Ops.nil ?_
      refine Then.next ?_
      refine Body.region ?_
      refine Ops.u (Dtu.mv (lk rfl)) rfl ?_
      refine Ops.u (Dtu.quo (lk rfl) (lk rfl) (by first | decide | omega) (wu8 (by omega) (by omega))) rfl ?_
      refine Ops.u (Dtu.asg (lk rfl)) rfl ?_
      refine Ops.nil ?_
      refine Blk.norm ?_
      refine Then.next ?_
      refine Body.region ?_
      refine Ops.u (Dtu.mv (lk rfl)) rfl ?_
      refine Ops.u (Dtu.add (lk rfl) (lk rfl) (w64 (by omega) (by omega))) rfl ?_
      refine Ops.u (Dtu.asg (lk rfl)) rfl ?_
      refine Ops.nil ?_
      exact Round.goF 5 rfl rfl rfl ⟨rfl, int_eq hd, trivial⟩ (by rw [hm]; rfl) (by decide) (by decide)
    · refine Body.skip ?_
      refine Then.next ?_
      refine Body.seq ?_
      refine Body.block ?_
      refine Body.seq ?_
      refine Body.region ?_
      refine Ops.u (Dtu.mv (lk rfl)) rfl ?_
      refine Ops.u (Dtu.mv (lk rfl)) rfl ?_
      refine Ops.u (Dtu.rem (lk rfl) (lk rfl) (by first | decide | omega) rfl) rfl ?_
      refine Ops.u (Dtu.eql (lk rfl) (lk rfl)) rfl ?_
      refine Ops.u (Dtu.fld fa63_0 (lk rfl)) rfl ?_
      refine Ops.u (Dtu.ixa (i := 5) Try.underlying61 Try.sizeOf4 (lk rfl) (lk rfl) (by omega) (by omega)) rfl ?_
      refine Ops.e (Stp.store 0 Try.sizeOf4 (lk rfl) (lk rfl) rfl rfl rfl rfl rfl rfl rfl ?_)
      refine Ops.nil ?_
      refine Then.next ?_
      refine Body.region ?_
      refine Ops.u (Dtu.mv (lk rfl)) rfl ?_
      refine Ops.u (Dtu.quo (lk rfl) (lk rfl) (by first | decide | omega) (wu8 (by omega) (by omega))) rfl ?_
      refine Ops.u (Dtu.asg (lk rfl)) rfl ?_
      refine Ops.nil ?_
      refine Blk.norm ?_
      refine Then.next ?_
      refine Body.region ?_
      refine Ops.u (Dtu.mv (lk rfl)) rfl ?_
      refine Ops.u (Dtu.add (lk rfl) (lk rfl) (w64 (by omega) (by omega))) rfl ?_
      refine Ops.u (Dtu.asg (lk rfl)) rfl ?_
      refine Ops.nil ?_
      exact Round.goF 6 rfl rfl rfl ⟨rfl, int_eq hd, trivial⟩ (by rw [hm]; rfl) (by decide) (by decide)
    · refine Body.skip ?_
      refine Then.next ?_
      refine Body.seq ?_
      refine Body.block ?_
      refine Body.seq ?_
      refine Body.region ?_
      refine Ops.u (Dtu.mv (lk rfl)) rfl ?_
      refine Ops.u (Dtu.mv (lk rfl)) rfl ?_
      refine Ops.u (Dtu.rem (lk rfl) (lk rfl) (by first | decide | omega) rfl) rfl ?_
      refine Ops.u (Dtu.eql (lk rfl) (lk rfl)) rfl ?_
      refine Ops.u (Dtu.fld fa63_0 (lk rfl)) rfl ?_
      refine Ops.u (Dtu.ixa (i := 6) Try.underlying61 Try.sizeOf4 (lk rfl) (lk rfl) (by omega) (by omega)) rfl ?_
      refine Ops.e (Stp.store 0 Try.sizeOf4 (lk rfl) (lk rfl) rfl rfl rfl rfl rfl rfl rfl ?_)
      refine Ops.nil ?_
      refine Then.next ?_
      refine Body.region ?_
      refine Ops.u (Dtu.mv (lk rfl)) rfl ?_
      refine Ops.u (Dtu.quo (lk rfl) (lk rfl) (by first | decide | omega) (wu8 (by omega) (by omega))) rfl ?_
      refine Ops.u (Dtu.asg (lk rfl)) rfl ?_
      refine Ops.nil ?_
      refine Blk.norm ?_
      refine Then.next ?_
      refine Body.region ?_
      refine Ops.u (Dtu.mv (lk rfl)) rfl ?_
      refine Ops.u (Dtu.add (lk rfl) (lk rfl) (w64 (by omega) (by omega))) rfl ?_
      refine Ops.u (Dtu.asg (lk rfl)) rfl ?_
      refine Ops.nil ?_
      exact Round.goF 7 rfl rfl rfl ⟨rfl, int_eq hd, trivial⟩ (by rw [hm]; rfl) (by decide) (by decide)
    · refine Body.skip ?_
      refine Then.next ?_
      refine Body.seq ?_
      refine Body.block ?_
      refine Body.seq ?_
      refine Body.region ?_
      refine Ops.u (Dtu.mv (lk rfl)) rfl ?_
      refine Ops.u (Dtu.mv (lk rfl)) rfl ?_
      refine Ops.u (Dtu.rem (lk rfl) (lk rfl) (by first | decide | omega) rfl) rfl ?_
      refine Ops.u (Dtu.eql (lk rfl) (lk rfl)) rfl ?_
      refine Ops.u (Dtu.fld fa63_0 (lk rfl)) rfl ?_
      refine Ops.u (Dtu.ixa (i := 7) Try.underlying61 Try.sizeOf4 (lk rfl) (lk rfl) (by omega) (by omega)) rfl ?_
      refine Ops.e (Stp.store 0 Try.sizeOf4 (lk rfl) (lk rfl) rfl rfl rfl rfl rfl rfl rfl ?_)
      refine Ops.nil ?_
      refine Then.next ?_
      refine Body.region ?_
      refine Ops.u (Dtu.mv (lk rfl)) rfl ?_
      refine Ops.u (Dtu.quo (lk rfl) (lk rfl) (by first | decide | omega) (wu8 (by omega) (by omega))) rfl ?_
      refine Ops.u (Dtu.asg (lk rfl)) rfl ?_
      refine Ops.nil ?_
      refine Blk.norm ?_
      refine Then.next ?_
      refine Body.region ?_
      refine Ops.u (Dtu.mv (lk rfl)) rfl ?_
      refine Ops.u (Dtu.add (lk rfl) (lk rfl) (w64 (by omega) (by omega))) rfl ?_
      refine Ops.u (Dtu.asg (lk rfl)) rfl ?_
      refine Ops.nil ?_
      exact Round.goF 8 rfl rfl rfl ⟨rfl, int_eq hd, trivial⟩ (by rw [hm]; rfl) (by decide) (by decide)
  · refine Body.exit ?_
    refine Then.exit ?_
    refine Round.exit ?_
    refine Blk.here ?_
    refine Then.next ?_
    refine Body.seq ?_
    refine Body.region ?_
    refine Ops.d (Det.lda Try.isAgg63 Try.sizeOf63 (lk rfl) (Rds.ow (m := 10) 0 rfl rfl) rfl) rfl ?_
    refine Ops.e (Stp.store 1 Try.sizeOf63 (lk rfl) (lk rfl) rfl rfl rfl rfl rfl rfl rfl ?_)
    refine Ops.nil ?_
    refine Then.next ?_
    refine Body.ret ?_
    obtain rfl : i = 8 := by omega
    exact ⟨.inr rfl, _, Loads.agg Try.isAgg63 Try.sizeOf63 (Rds.ow (m := 10) 1 rfl rfl) rfl, _, pk [] rfl, rfl, rfl⟩
theorem rflags_ok (E : Env) (fl fg bg : Int) (h0 : 0 ≤ fl) (h1 : fl < 256) : Does Try.prog 119 #[.agg (rsty fl fg bg).toArray] E [] fun r H' => r = .int .u8 fl ∧ H' = [] := by
  refine Does.go (args := [.agg (rsty fl fg bg).toArray]) _ _ Try.func119 rfl Try.ntmps119 rfl rfl ?_
  refine Body.seq ?_
  refine Body.region ?_
  refine Ops.s (Stp.box (lk rfl) rfl (fun b1 => ?_)) rfl
  refine Ops.u (Dtu.asg (lk rfl)) rfl ?_
  refine Ops.nil ?_
  refine Then.next ?_
  refine Body.seq ?_
  refine Body.region ?_
  refine Ops.u (Dtu.asg (lk rfl)) rfl ?_
  refine Ops.nil ?_
  refine Then.next ?_
  refine Body.seq ?_
  refine Body.seq ?_
  refine Body.region ?_
  refine Ops.u (Dtu.asg (lk rfl)) rfl ?_
  refine Ops.nil ?_
  refine Then.next ?_
  refine Body.block ?_
  refine Body.loopF (γ := Int × Nat) rfl (fun g => [(4, .int .i64 g.1), (3, .int .u8 (fl / 2 ^ g.2))]) (fun _ => [own b1 (rsty fl fg bg) 63]) (fun g => g.1 = (g.2 : Int) - 1 ∧ g.2 ≤ 8) (fun g => g.2) (7, 8) (by omega) ⟨rfl, int_eq (by show (0 : Int) = fl / 2 ^ 8; omega), trivial⟩ rfl ?_
  rintro ⟨z, i⟩ u ⟨hz, hi⟩
  dsimp only at hz hi ⊢
  refine Body.seq ?_
  refine Body.seq ?_
  refine Body.region ?_
  refine Ops.u (Dtu.mv (lk rfl)) rfl ?_
  refine Ops.u (Dtu.geq (lk rfl) (lk rfl)) rfl ?_
  refine Ops.nil ?_
  refine Then.next ?_
  refine Body.condP (lk rfl) (fun c6 => ?_) (fun c6 => ?_)
  · obtain ⟨j, rfl⟩ : ∃ j, i = j + 1 := ⟨i - 1, by omega⟩
    obtain rfl : z = (j : Int) := by omega
    have hp : fl / 2 ^ (j + 1) = fl / 2 ^ j / 2 := by rw [Int.pow_succ, ← Int.ediv_ediv_of_nonneg (Int.pow_nonneg (by omega))]
    have hq : 0 ≤ fl / 2 ^ j := Int.ediv_nonneg h0 (Int.pow_nonneg (by omega))
    have hq2 : fl / 2 ^ j ≤ fl := Int.ediv_le_self _ h0
    have e1 : IntKind.u8.wrap (2 * (fl / 2 ^ (j + 1))) = 2 * (fl / 2 ^ (j + 1)) := by
      rw [wrap_u8]; omega
    have hj : j ≤ 7 := by omega
    clear hi hz
    obtain rfl | rfl | rfl | rfl | rfl | rfl | rfl | rfl : j = 0 ∨ j = 1 ∨ j = 2 ∨ j = 3 ∨ j = 4 ∨ j = 5 ∨ j = 6 ∨ j = 7 := by omega
    · refine Body.skip ?_
      refine Then.next ?_
      refine Body.seq ?_
      refine Body.block ?_
      refine Body.seq ?_
      refine Body.region ?_
      refine Ops.u (Dtu.mv (lk rfl)) rfl ?_
      refine Ops.u (Dtu.mul (lk rfl) (lk rfl) (by with_reducible assumption)) rfl ?_
      refine Ops.u (Dtu.asg (lk rfl)) rfl ?_
      refine Ops.nil ?_
      refine Then.next ?_
      refine Body.seq ?_
      refine Body.region ?_
      refine Ops.u (Dtu.mv (lk rfl)) rfl ?_
      refine Ops.u (Dtu.fld fa63_0 (lk rfl)) rfl ?_
      refine Ops.u (Dtu.ixa (i := 0) Try.underlying61 Try.sizeOf4 (lk rfl) (lk rfl) (by omega) (by omega)) rfl ?_
      refine Ops.d (Det.ld Try.isAgg4 (lk rfl) (Rd.ow 0 rfl rfl)) rfl ?_
      refine Ops.nil ?_
      refine Then.next ?_
      refine Body.cond (lk rfl) (fun c14 => ?_) (fun c14 => ?_)
      · have := of_decide_eq_true c14
        refine Body.region ?_
        refine Ops.u (Dtu.mv (lk rfl)) rfl ?_
        refine Ops.u (Dtu.add (lk rfl) (lk rfl) (wu8 (by omega) (by omega))) rfl ?_
        refine Ops.u (Dtu.asg (lk rfl)) rfl ?_
        refine Ops.nil ?_
        refine Blk.norm ?_
        refine Then.next ?_
        refine Body.region ?_
        refine Ops.u (Dtu.mv (lk rfl)) rfl ?_
        refine Ops.u (Dtu.sub (lk rfl) (lk rfl) (w64 (by omega) (by omega))) rfl ?_
        refine Ops.u (Dtu.asg (lk rfl)) rfl ?_
        refine Ops.nil ?_
        exact Round.goF (-1, 0) rfl rfl rfl ⟨int_eq (by first | omega | (dsimp only; omega)), int_eq (by first | omega | (dsimp only; omega)), trivial⟩ rfl (by decide) (by decide)
      · have : ¬ fl / 2 ^ 0 % 2 = 1 := of_decide_eq_false c14
        refine Body.skip ?_
        refine Blk.norm ?_
        refine Then.next ?_
        refine Body.region ?_
        refine Ops.u (Dtu.mv (lk rfl)) rfl ?_
        refine Ops.u (Dtu.sub (lk rfl) (lk rfl) (w64 (by omega) (by omega))) rfl ?_
        refine Ops.u (Dtu.asg (lk rfl)) rfl ?_
        refine Ops.nil ?_
        exact Round.goF (-1, 0) rfl rfl rfl ⟨int_eq (by first | omega | (dsimp only; omega)), int_eq (by first | omega | (dsimp only; omega)), trivial⟩ rfl (by decide) (by decide)
    · refine Body.skip ?_
      refine Then.next ?_
      refine Body.seq ?_
      refine Body.block ?_
      refine Body.seq ?_
      refine Body.region ?_
      refine Ops.u (Dtu.mv (lk rfl)) rfl ?_
      refine Ops.u (Dtu.mul (lk rfl) (lk rfl) (by with_reducible assumption)) rfl ?_
      refine Ops.u (Dtu.asg (lk rfl)) rfl ?_
      refine Ops.nil ?_
      refine Then.next ?_
      refine Body.seq ?_
      refine Body.region ?_
      refine Ops.u (Dtu.mv (lk rfl)) rfl ?_
      refine Ops.u (Dtu.fld fa63_0 (lk rfl)) rfl ?_
      refine Ops.u (Dtu.ixa (i := 1) Try.underlying61 Try.sizeOf4 (lk rfl) (lk rfl) (by omega) (by omega)) rfl ?_
      refine Ops.d (Det.ld Try.isAgg4 (lk rfl) (Rd.ow 0 rfl rfl)) rfl ?_
      refine Ops.nil ?_
      refine Then.next ?_
      refine Body.cond (lk rfl) (fun c14 => ?_) (fun c14 => ?_)
      · have := of_decide_eq_true c14
        refine Body.region ?_
        refine Ops.u (Dtu.mv (lk rfl)) rfl ?_
        refine Ops.u (Dtu.add (lk rfl) (lk rfl) (wu8 (by omega) (by omega))) rfl ?_
        refine Ops.u (Dtu.asg (lk rfl)) rfl ?_
        refine Ops.nil ?_
        refine Blk.norm ?_
        refine Then.next ?_
        refine Body.region ?_
        refine Ops.u (Dtu.mv (lk rfl)) rfl ?_
        refine Ops.u (Dtu.sub (lk rfl) (lk rfl) (w64 (by omega) (by omega))) rfl ?_
        refine Ops.u (Dtu.asg (lk rfl)) rfl ?_
        refine Ops.nil ?_
        exact Round.goF (0, 1) rfl rfl rfl ⟨int_eq (by first | omega | (dsimp only; omega)), int_eq (by first | omega | (dsimp only; omega)), trivial⟩ rfl (by decide) (by decide)
      · have : ¬ fl / 2 ^ 1 % 2 = 1 := of_decide_eq_false c14
        refine Body.skip ?_
        refine Blk.norm ?_
        refine Then.next ?_
        refine Body.region ?_
        refine Ops.u (Dtu.mv (lk rfl)) rfl ?_
        refine Ops.u (Dtu.sub (lk rfl) (lk rfl) (w64 (by omega) (by omega))) rfl ?_
        refine Ops.u (Dtu.asg (lk rfl)) rfl ?_
        refine Ops.nil ?_
        exact Round.goF (0, 1) rfl rfl rfl ⟨int_eq (by first | omega | (dsimp only; omega)), int_eq (by first | omega | (dsimp only; omega)), trivial⟩ rfl (by decide) (by decide)
    · refine Body.skip ?_
      refine Then.next ?_
      refine Body.seq ?_
      refine Body.block ?_
      refine Body.seq ?_
      refine Body.region ?_
      refine Ops.u (Dtu.mv (lk rfl)) rfl ?_
      refine Ops.u (Dtu.mul (lk rfl) (lk rfl) (by with_reducible assumption)) rfl ?_
      refine Ops.u (Dtu.asg (lk rfl)) rfl ?_
      refine Ops.nil ?_
      refine Then.next ?_
      refine Body.seq ?_
      refine Body.region ?_
      refine Ops.u (Dtu.mv (lk rfl)) rfl ?_
      refine Ops.u (Dtu.fld fa63_0 (lk rfl)) rfl ?_
      refine Ops.u (Dtu.ixa (i := 2) Try.underlying61 Try.sizeOf4 (lk rfl) (lk rfl) (by omega) (by omega)) rfl ?_
      refine Ops.d (Det.ld Try.isAgg4 (lk rfl) (Rd.ow 0 rfl rfl)) rfl ?_
      refine Ops.nil ?_
      refine Then.next ?_
      refine Body.cond (lk rfl) (fun c14 => ?_) (fun c14 => ?_)
      · have := of_decide_eq_true c14
        refine Body.region ?_
        refine Ops.u (Dtu.mv (lk rfl)) rfl ?_
        refine Ops.u (Dtu.add (lk rfl) (lk rfl) (wu8 (by omega) (by omega))) rfl ?_
        refine Ops.u (Dtu.asg (lk rfl)) rfl ?_
        refine Ops.nil ?_
        refine Blk.norm ?_
        refine Then.next ?_
        refine Body.region ?_
        refine Ops.u (Dtu.mv (lk rfl)) rfl ?_
        refine Ops.u (Dtu.sub (lk rfl) (lk rfl) (w64 (by omega) (by omega))) rfl ?_
        refine Ops.u (Dtu.asg (lk rfl)) rfl ?_
        refine Ops.nil ?_
        exact Round.goF (1, 2) rfl rfl rfl ⟨int_eq (by first | omega | (dsimp only; omega)), int_eq (by first | omega | (dsimp only; omega)), trivial⟩ rfl (by decide) (by decide)
      · have : ¬ fl / 2 ^ 2 % 2 = 1 := of_decide_eq_false c14
        refine Body.skip ?_
        refine Blk.norm ?_
        refine Then.next ?_
        refine Body.region ?_
        refine Ops.u (Dtu.mv (lk rfl)) rfl ?_
        refine Ops.u (Dtu.sub (lk rfl) (lk rfl) (w64 (by omega) (by omega))) rfl ?_
        refine Ops.u (Dtu.asg (lk rfl)) rfl ?_
        refine Ops.nil ?_
        exact Round.goF (1, 2) rfl rfl rfl ⟨int_eq (by first | omega | (dsimp only; omega)), int_eq (by first | omega | (dsimp only; omega)), trivial⟩ rfl (by decide) (by decide)
    · refine Body.skip ?_
      refine Then.next ?_
      refine Body.seq ?_
      refine Body.block ?_
      refine Body.seq ?_
      refine Body.region ?_
      refine Ops.u (Dtu.mv (lk rfl)) rfl ?_
      refine Ops.u (Dtu.mul (lk rfl) (lk rfl) (by with_reducible assumption)) rfl ?_
      refine Ops.u (Dtu.asg (lk rfl)) rfl ?_
      refine Ops.nil ?_
      refine Then.next ?_
      refine Body.seq ?_
      refine Body.region ?_
      refine Ops.u (Dtu.mv (lk rfl)) rfl ?_
      refine Ops.u (Dtu.fld fa63_0 (lk rfl)) rfl ?_
      refine Ops.u (Dtu.ixa (i := 3) Try.underlying61 Try.sizeOf4 (lk rfl) (lk rfl) (by omega) (by omega)) rfl ?_
      refine Ops.d (Det.ld Try.isAgg4 (lk rfl) (Rd.ow 0 rfl rfl)) rfl ?_
      refine Ops.nil ?_
      refine Then.next ?_
      refine Body.cond (lk rfl) (fun c14 => ?_) (fun c14 => ?_)
      · have := of_decide_eq_true c14
        refine Body.region ?_
        refine Ops.u (Dtu.mv (lk rfl)) rfl ?_
        refine Ops.u (Dtu.add (lk rfl) (lk rfl) (wu8 (by omega) (by omega))) rfl ?_
        refine Ops.u (Dtu.asg (lk rfl)) rfl ?_
        refine Ops.nil ?_
        refine Blk.norm ?_
        refine Then.next ?_
        refine Body.region ?_
        refine Ops.u (Dtu.mv (lk rfl)) rfl ?_
        refine Ops.u (Dtu.sub (lk rfl) (lk rfl) (w64 (by omega) (by omega))) rfl ?_
        refine Ops.u (Dtu.asg (lk rfl)) rfl ?_
        refine Ops.nil ?_
        exact Round.goF (2, 3) rfl rfl rfl ⟨int_eq (by first | omega | (dsimp only; omega)), int_eq (by first | omega | (dsimp only; omega)), trivial⟩ rfl (by decide) (by decide)
      · have : ¬ fl / 2 ^ 3 % 2 = 1 := of_decide_eq_false c14
        refine Body.skip ?_
        refine Blk.norm ?_
        refine Then.next ?_
        refine Body.region ?_
        refine Ops.u (Dtu.mv (lk rfl)) rfl ?_
        refine Ops.u (Dtu.sub (lk rfl) (lk rfl) (w64 (by omega) (by omega))) rfl ?_
        refine Ops.u (Dtu.asg (lk rfl)) rfl ?_
        refine Ops.nil ?_
        exact Round.goF (2, 3) rfl rfl rfl ⟨int_eq (by first | omega | (dsimp only; omega)), int_eq (by first | omega | (dsimp only; omega)), trivial⟩ rfl (by decide) (by decide)
    · refine Body.skip ?_
      refine Then.next ?_
      refine Body.seq ?_
      refine Body.block ?_
      refine Body.seq ?_
      refine Body.region ?_
      refine Ops.u (Dtu.mv (lk rfl)) rfl ?_
      refine Ops.u (Dtu.mul (lk rfl) (lk rfl) (by with_reducible assumption)) rfl ?_
      refine Ops.u (Dtu.asg (lk rfl)) rfl ?_
      refine Ops.nil ?_
      refine Then.next ?_
      refine Body.seq ?_
      refine Body.region ?_
      refine Ops.u (Dtu.mv (lk rfl)) rfl ?_
      refine Ops.u (Dtu.fld fa63_0 (lk rfl)) rfl ?_
      refine Ops.u (Dtu.ixa (i := 4) Try.underlying61 Try.sizeOf4 (lk rfl) (lk rfl) (by omega) (by omega)) rfl ?_
      refine Ops.d (Det.ld Try.isAgg4 (lk rfl) (Rd.ow 0 rfl rfl)) rfl ?_
      refine Ops.nil ?_
      refine Then.next ?_
      refine Body.cond (lk rfl) (fun c14 => ?_) (fun c14 => ?_)
      · have := of_decide_eq_true c14
        refine Body.region ?_
        refine Ops.u (Dtu.mv (lk rfl)) rfl ?_
        refine Ops.u (Dtu.add (lk rfl) (lk rfl) (wu8 (by omega) (by omega))) rfl ?_
        refine Ops.u (Dtu.asg (lk rfl)) rfl ?_
        refine Ops.nil ?_
        refine Blk.norm ?_
        refine Then.next ?_
        refine Body.region ?_
        refine Ops.u (Dtu.mv (lk rfl)) rfl ?_
        refine Ops.u (Dtu.sub (lk rfl) (lk rfl) (w64 (by omega) (by omega))) rfl ?_
        refine Ops.u (Dtu.asg (lk rfl)) rfl ?_
        refine Ops.nil ?_
        exact Round.goF (3, 4) rfl rfl rfl ⟨int_eq (by first | omega | (dsimp only; omega)), int_eq (by first | omega | (dsimp only; omega)), trivial⟩ rfl (by decide) (by decide)
      · have : ¬ fl / 2 ^ 4 % 2 = 1 := of_decide_eq_false c14
        refine Body.skip ?_
        refine Blk.norm ?_
        refine Then.next ?_
        refine Body.region ?_
        refine Ops.u (Dtu.mv (lk rfl)) rfl ?_
        refine Ops.u (Dtu.sub (lk rfl) (lk rfl) (w64 (by omega) (by omega))) rfl ?_
        refine Ops.u (Dtu.asg (lk rfl)) rfl ?_
        refine Ops.nil ?_
        exact Round.goF (3, 4) rfl rfl rfl ⟨int_eq (by first | omega | (dsimp only; omega)), int_eq (by first | omega | (dsimp only; omega)), trivial⟩ rfl (by decide) (by decide)
    · refine Body.skip ?_
      refine Then.next ?_
      refine Body.seq ?_
      refine Body.block ?_
      refine Body.seq ?_
      refine Body.region ?_
      refine Ops.u (Dtu.mv (lk rfl)) rfl ?_
      refine Ops.u (Dtu.mul (lk rfl) (lk rfl) (by with_reducible assumption)) rfl ?_
      refine Ops.u (Dtu.asg (lk rfl)) rfl ?_
      refine Ops.nil ?_
      refine Then.next ?_
      refine Body.seq ?_
      refine Body.region ?_
      refine Ops.u (Dtu.mv (lk rfl)) rfl ?_
      refine Ops.u (Dtu.fld fa63_0 (lk rfl)) rfl ?_
      refine Ops.u (Dtu.ixa (i := 5) Try.underlying61 Try.sizeOf4 (lk rfl) (lk rfl) (by omega) (by omega)) rfl ?_
      refine Ops.d (Det.ld Try.isAgg4 (lk rfl) (Rd.ow 0 rfl rfl)) rfl ?_
      refine Ops.nil ?_
      refine Then.next ?_
      refine Body.cond (lk rfl) (fun c14 => ?_) (fun c14 => ?_)
      · have := of_decide_eq_true c14
        refine Body.region ?_
        refine Ops.u (Dtu.mv (lk rfl)) rfl ?_
        refine Ops.u (Dtu.add (lk rfl) (lk rfl) (wu8 (by omega) (by omega))) rfl ?_
        refine Ops.u (Dtu.asg (lk rfl)) rfl ?_
        refine Ops.nil ?_
        refine Blk.norm ?_
        refine Then.next ?_
        refine Body.region ?_
        refine Ops.u (Dtu.mv (lk rfl)) rfl ?_
        refine Ops.u (Dtu.sub (lk rfl) (lk rfl) (w64 (by omega) (by omega))) rfl ?_
        refine Ops.u (Dtu.asg (lk rfl)) rfl ?_
        refine Ops.nil ?_
        exact Round.goF (4, 5) rfl rfl rfl ⟨int_eq (by first | omega | (dsimp only; omega)), int_eq (by first | omega | (dsimp only; omega)), trivial⟩ rfl (by decide) (by decide)
      · have : ¬ fl / 2 ^ 5 % 2 = 1 := of_decide_eq_false c14
        refine Body.skip ?_
        refine Blk.norm ?_
        refine Then.next ?_
        refine Body.region ?_
        refine Ops.u (Dtu.mv (lk rfl)) rfl ?_
        refine Ops.u (Dtu.sub (lk rfl) (lk rfl) (w64 (by omega) (by omega))) rfl ?_
        refine Ops.u (Dtu.asg (lk rfl)) rfl ?_
        refine Ops.nil ?_
        exact Round.goF (4, 5) rfl rfl rfl ⟨int_eq (by first | omega | (dsimp only; omega)), int_eq (by first | omega | (dsimp only; omega)), trivial⟩ rfl (by decide) (by decide)
    · refine Body.skip ?_
      refine Then.next ?_
      refine Body.seq ?_
      refine Body.block ?_
      refine Body.seq ?_
      refine Body.region ?_
      refine Ops.u (Dtu.mv (lk rfl)) rfl ?_
      refine Ops.u (Dtu.mul (lk rfl) (lk rfl) (by with_reducible assumption)) rfl ?_
      refine Ops.u (Dtu.asg (lk rfl)) rfl ?_
      refine Ops.nil ?_
      refine Then.next ?_
      refine Body.seq ?_
      refine Body.region ?_
      refine Ops.u (Dtu.mv (lk rfl)) rfl ?_
      refine Ops.u (Dtu.fld fa63_0 (lk rfl)) rfl ?_
      refine Ops.u (Dtu.ixa (i := 6) Try.underlying61 Try.sizeOf4 (lk rfl) (lk rfl) (by omega) (by omega)) rfl ?_
      refine Ops.d (Det.ld Try.isAgg4 (lk rfl) (Rd.ow 0 rfl rfl)) rfl ?_
      refine Ops.nil ?_
      refine Then.next ?_
      refine Body.cond (lk rfl) (fun c14 => ?_) (fun c14 => ?_)
      · have := of_decide_eq_true c14
        refine Body.region ?_
        refine Ops.u (Dtu.mv (lk rfl)) rfl ?_
        refine Ops.u (Dtu.add (lk rfl) (lk rfl) (wu8 (by omega) (by omega))) rfl ?_
        refine Ops.u (Dtu.asg (lk rfl)) rfl ?_
        refine Ops.nil ?_
        refine Blk.norm ?_
        refine Then.next ?_
        refine Body.region ?_
        refine Ops.u (Dtu.mv (lk rfl)) rfl ?_
        refine Ops.u (Dtu.sub (lk rfl) (lk rfl) (w64 (by omega) (by omega))) rfl ?_
        refine Ops.u (Dtu.asg (lk rfl)) rfl ?_
        refine Ops.nil ?_
        exact Round.goF (5, 6) rfl rfl rfl ⟨int_eq (by first | omega | (dsimp only; omega)), int_eq (by first | omega | (dsimp only; omega)), trivial⟩ rfl (by decide) (by decide)
      · have : ¬ fl / 2 ^ 6 % 2 = 1 := of_decide_eq_false c14
        refine Body.skip ?_
        refine Blk.norm ?_
        refine Then.next ?_
        refine Body.region ?_
        refine Ops.u (Dtu.mv (lk rfl)) rfl ?_
        refine Ops.u (Dtu.sub (lk rfl) (lk rfl) (w64 (by omega) (by omega))) rfl ?_
        refine Ops.u (Dtu.asg (lk rfl)) rfl ?_
        refine Ops.nil ?_
        exact Round.goF (5, 6) rfl rfl rfl ⟨int_eq (by first | omega | (dsimp only; omega)), int_eq (by first | omega | (dsimp only; omega)), trivial⟩ rfl (by decide) (by decide)
    · refine Body.skip ?_
      refine Then.next ?_
      refine Body.seq ?_
      refine Body.block ?_
      refine Body.seq ?_
      refine Body.region ?_
      refine Ops.u (Dtu.mv (lk rfl)) rfl ?_
      refine Ops.u (Dtu.mul (lk rfl) (lk rfl) (by with_reducible assumption)) rfl ?_
      refine Ops.u (Dtu.asg (lk rfl)) rfl ?_
      refine Ops.nil ?_
      refine Then.next ?_
      refine Body.seq ?_
      refine Body.region ?_
      refine Ops.u (Dtu.mv (lk rfl)) rfl ?_
      refine Ops.u (Dtu.fld fa63_0 (lk rfl)) rfl ?_
      refine Ops.u (Dtu.ixa (i := 7) Try.underlying61 Try.sizeOf4 (lk rfl) (lk rfl) (by omega) (by omega)) rfl ?_
      refine Ops.d (Det.ld Try.isAgg4 (lk rfl) (Rd.ow 0 rfl rfl)) rfl ?_
      refine Ops.nil ?_
      refine Then.next ?_
      refine Body.cond (lk rfl) (fun c14 => ?_) (fun c14 => ?_)
      · have := of_decide_eq_true c14
        refine Body.region ?_
        refine Ops.u (Dtu.mv (lk rfl)) rfl ?_
        refine Ops.u (Dtu.add (lk rfl) (lk rfl) (wu8 (by omega) (by omega))) rfl ?_
        refine Ops.u (Dtu.asg (lk rfl)) rfl ?_
        refine Ops.nil ?_
        refine Blk.norm ?_
        refine Then.next ?_
        refine Body.region ?_
        refine Ops.u (Dtu.mv (lk rfl)) rfl ?_
        refine Ops.u (Dtu.sub (lk rfl) (lk rfl) (w64 (by omega) (by omega))) rfl ?_
        refine Ops.u (Dtu.asg (lk rfl)) rfl ?_
        refine Ops.nil ?_
        exact Round.goF (6, 7) rfl rfl rfl ⟨int_eq (by first | omega | (dsimp only; omega)), int_eq (by first | omega | (dsimp only; omega)), trivial⟩ rfl (by decide) (by decide)
      · have : ¬ fl / 2 ^ 7 % 2 = 1 := of_decide_eq_false c14
        refine Body.skip ?_
        refine Blk.norm ?_
        refine Then.next ?_
        refine Body.region ?_
        refine Ops.u (Dtu.mv (lk rfl)) rfl ?_
        refine Ops.u (Dtu.sub (lk rfl) (lk rfl) (w64 (by omega) (by omega))) rfl ?_
        refine Ops.u (Dtu.asg (lk rfl)) rfl ?_
        refine Ops.nil ?_
        exact Round.goF (6, 7) rfl rfl rfl ⟨int_eq (by first | omega | (dsimp only; omega)), int_eq (by first | omega | (dsimp only; omega)), trivial⟩ rfl (by decide) (by decide)
  · obtain rfl : i = 0 := by omega
    refine Body.exit ?_
    refine Then.exit ?_
    refine Round.exit ?_
    refine Blk.here ?_
    refine Then.next ?_
    refine Body.seq ?_
    refine Body.region ?_
    refine Ops.u (Dtu.mv (lk rfl)) rfl ?_
    refine Ops.u (Dtu.asg (lk rfl)) rfl ?_
    refine Ops.nil ?_
    refine Then.next ?_
    refine Body.ret ?_
    exact ⟨.inr rfl, _, pk [] rfl, show Value.int .u8 (fl / 2 ^ 0) = .int .u8 fl by simp, rfl⟩
end Go.Proofs.Ytijjjdljdjnbaaa
end
section
/- The document's styles and cells: there and back. -/
namespace Go.Proofs.Ytijjjdljdjnbaaa
set_option maxRecDepth 100000
set_option linter.unusedVariables false
set_option linter.unusedSimpArgs false
open Go.Sx

def Cell.rsty (c : Cell) : List Value := Go.Proofs.Ytijjjdljdjnbaaa.rsty c.fl c.fg c.bg
def Cell.renc (c : Cell) : List Value := .int .i32 c.pt :: Go.Proofs.Ytijjjdljdjnbaaa.rsty c.fl c.fg c.bg
theorem rwriteS_ok (E : Env) (c : Cell) (hi : 0 ≤ c.fl ∧ c.fl < 256) (h : c.okStyle = true) : Does Try.prog 82 #[.agg c.rsty.toArray] E [] fun r H' => ∃ s, (3 ≤ c.styleN ∧ c.styleN ≤ 17) ∧ r = s ∧ H' = [osl 5 1 s c.styleN (c.styleB.map (.int .u8))] := by
  have hf : isCol c.fg = true ∧ isCol c.bg = true := by simpa [Cell.okStyle, okSty] using h
  have b1 := isCol_bound hf.1
  have b2 := isCol_bound hf.2
  have z1 := sizeS_le c.fg
  have z2 := sizeS_le c.bg
  have z3 := sizeS_pos (v := c.fg) (by omega)
  have z4 := sizeS_pos (v := c.bg) (by omega)
  refine Does.go (args := [.agg c.rsty.toArray]) _ _ Try.func82 rfl Try.ntmps82 rfl rfl ?_
  refine Body.seq ?_
  refine Body.region ?_
  refine Ops.s (Stp.box (lk rfl) rfl (fun b1 => ?_)) rfl
  refine Ops.u (Dtu.asg (lk rfl)) rfl ?_
  refine Ops.nil ?_
  refine Then.next ?_
  refine Body.seq ?_
  refine Body.region ?_
  refine Ops.d (Det.lda Try.isAgg63 Try.sizeOf63 (lk rfl) (Rds.ow (m := 10) 0 rfl rfl) rfl) rfl ?_
  refine Ops.s (Stp.call rfl Try.call119 (lks rfl) (fun E' le hat => rflags_ok E' _ _ _ (by first | assumption | omega) (by first | assumption | omega)) ?_) rfl
  rintro _ _ ⟨rfl, rfl⟩
  refine Ops.s (Stp.buildSliceO Try.underlying32 ty5 (by decide) (by decide) (lkp rfl) rfl rfl rfl (by decide) (fun v6 => ?_)) rfl
  refine Ops.u (Dtu.asg (lk rfl)) rfl ?_
  refine Ops.nil ?_
  refine Then.next ?_
  refine Body.seq ?_
  refine Body.region ?_
  refine Ops.u (Dtu.mv (lk rfl)) rfl ?_
  refine Ops.u (Dtu.fld fa63_1 (lk rfl)) rfl ?_
  refine Ops.d (Det.ld Try.isAgg51 (lk rfl) (Rd.ow 1 rfl rfl)) rfl ?_
  refine Ops.u (Dtu.cvt Try.underlying51 Try.underlying75 (lk rfl) (wu64 (by omega) (by omega))) rfl ?_
  refine Ops.s (Stp.call rfl Try.call63 (lks rfl) (fun E' le hat => rput_ok E' _ (by omega) (by omega)) ?_) rfl
  rintro _ _ ⟨sp11, rfl, rfl⟩
  refine Ops.s (Stp.append 1 Try.underlying32 ty5 rfl rfl (lk rfl) (lk rfl) (Sl.osl 0 rfl) (by first | rfl | exact all_map (fun _ => rfl) _ | exact all_flat (fun _ => rfl) _) (by omega) (by omega) (fun v12 => ?_)) rfl
  refine Ops.u (Dtu.asg (lk rfl)) rfl ?_
  refine Ops.nil ?_
  refine Then.next ?_
  refine Body.seq ?_
  refine Body.region ?_
  refine Ops.u (Dtu.mv (lk rfl)) rfl ?_
  refine Ops.u (Dtu.fld fa63_2 (lk rfl)) rfl ?_
  refine Ops.d (Det.ld Try.isAgg51 (lk rfl) (Rd.ow 2 rfl rfl)) rfl ?_
  refine Ops.u (Dtu.cvt Try.underlying51 Try.underlying75 (lk rfl) (wu64 (by omega) (by omega))) rfl ?_
  refine Ops.s (Stp.call rfl Try.call63 (lks rfl) (fun E' le hat => rput_ok E' _ (by omega) (by omega)) ?_) rfl
  rintro _ _ ⟨sp17, rfl, rfl⟩
  refine Ops.s (Stp.append 2 Try.underlying32 ty5 rfl rfl (lk rfl) (lk rfl) (Sl.osl 0 rfl) (by first | rfl | exact all_map (fun _ => rfl) _ | exact all_flat (fun _ => rfl) _) (by omega) (by omega) (fun v18 => ?_)) rfl
  refine Ops.u (Dtu.asg (lk rfl)) rfl ?_
  refine Ops.nil ?_
  refine Then.next ?_
  refine Body.ret ?_
  exact ⟨.inr rfl, _, pk [2] rfl, v18, by unfold Cell.styleN; omega, rfl, by simp [Cell.styleB, Cell.styleN]⟩
theorem as16_ok (E : Env) (fl fg bg : Int) (h0 : 0 ≤ fl) (h1 : fl < 256) : Does Try.prog 76 #[.agg #[.int .u8 fl, .int .u32 fg, .int .u32 bg]] E [] fun r H' => r = .agg #[.bool (bit8 fl 0), .bool (bit8 fl 1), .bool (bit8 fl 2), .bool (bit8 fl 3), .bool (bit8 fl 4), .bool (bit8 fl 5), .bool (bit8 fl 6), .bool (bit8 fl 7), .int .u32 fg, .int .u32 bg] ∧ H' = [] := by
  refine Does.go (args := [.agg #[.int .u8 fl, .int .u32 fg, .int .u32 bg]]) _ _ Try.func76 rfl Try.ntmps76 rfl rfl ?_
  refine Body.seq ?_
  refine Body.region ?_
  refine Ops.s (Stp.box (lk rfl) rfl (fun b1 => ?_)) rfl
  refine Ops.s (Stp.alloc ty63 (fun b2 => ?_)) rfl
  refine Ops.nil ?_
  refine Then.next ?_
  refine Body.seq ?_
  refine Body.region ?_
  refine Ops.u (Dtu.fld fa53_0 (lk rfl)) rfl ?_
  refine Ops.d (Det.ld Try.isAgg5 (lk rfl) (Rd.ow 1 rfl rfl)) rfl ?_
  refine Ops.u (Dtu.fld fa53_1 (lk rfl)) rfl ?_
  refine Ops.d (Det.ld Try.isAgg51 (lk rfl) (Rd.ow 1 rfl rfl)) rfl ?_
  refine Ops.u (Dtu.fld fa53_2 (lk rfl)) rfl ?_
  refine Ops.d (Det.ld Try.isAgg51 (lk rfl) (Rd.ow 1 rfl rfl)) rfl ?_
  refine Ops.s (Stp.call rfl Try.call117 (lks rfl) (fun E' le hat => rof_ok E' _ _ _ (by first | assumption | omega) (by first | assumption | omega)) ?_) rfl
  rintro _ _ ⟨rfl, rfl⟩
  refine Ops.e (Stp.store 0 Try.sizeOf63 (lk rfl) (lk rfl) rfl rfl rfl rfl rfl rfl rfl ?_)
  refine Ops.nil ?_
  refine Then.next ?_
  refine Body.ret ?_
  exact ⟨.inr rfl, _, Loads.agg Try.isAgg63 Try.sizeOf63 (Rds.ow (m := 10) 0 rfl rfl) rfl, _, pk [] rfl, rfl, rfl⟩
theorem cell17_ok (E : Env) (pt fl fg bg : Int) (h0 : 0 ≤ fl) (h1 : fl < 256) : Does Try.prog 32 #[.agg #[.int .i32 pt, .int .u8 fl, .int .u32 fg, .int .u32 bg]] E [] fun r H' => r = .agg (.int .i32 pt :: rsty fl fg bg).toArray ∧ H' = [] := by
  refine Does.go (args := [.agg #[.int .i32 pt, .int .u8 fl, .int .u32 fg, .int .u32 bg]]) _ _ Try.func32 rfl Try.ntmps32 rfl rfl ?_
  refine Body.seq ?_
  refine Body.region ?_
  refine Ops.s (Stp.box (lk rfl) rfl (fun b1 => ?_)) rfl
  refine Ops.s (Stp.alloc ty65 (fun b2 => ?_)) rfl
  refine Ops.nil ?_
  refine Then.next ?_
  refine Body.seq ?_
  refine Body.draw mixed ?_
  refine AB.u 0 rfl (by decide +kernel) (Dtu.fld fa55_0 (lk rfl)) rfl ?_
  refine AB.d 1 rfl (by decide +kernel) rfl (Det.ld Try.isAgg21 (lk rfl) (Rd.ow 1 rfl rfl)) rfl ?_
  refine AB.u 2 rfl (by decide +kernel) (Dtu.fld fa55_1 (lk rfl)) rfl ?_
  refine AB.d 3 rfl (by decide +kernel) rfl (Det.lda Try.isAgg53 Try.sizeOf53 (lk rfl) (Rds.ow (m := 3) 1 rfl rfl) rfl) rfl ?_
  refine AB.s 4 rfl (by decide +kernel) (by decide +kernel) (Stp.call rfl Try.call76 (lks rfl) (fun E' le hat => as16_ok E' _ _ _ (by first | assumption | omega) (by first | assumption | omega)) ?_) rfl
  rintro _ _ ⟨rfl, rfl⟩
  refine AB.u 5 rfl (by decide +kernel) (Dtu.build ty65 pl65 (lkp rfl) rfl rfl) rfl ?_
  refine AB.e 6 rfl (by decide +kernel) (by decide +kernel) (Stp.store 0 Try.sizeOf65 (lk rfl) (lk rfl) rfl rfl rfl rfl rfl rfl rfl ?_)
  refine AB.done (by decide +kernel) ?_
  refine Then.next ?_
  refine Body.ret ?_
  exact ⟨.inr rfl, _, Loads.agg Try.isAgg65 Try.sizeOf65 (Rds.ow (m := 11) 0 rfl rfl) rfl, _, pk [] rfl, rfl, rfl⟩
theorem risCell_ok (E : Env) (c : Cell) (h : 0 ≤ c.fg ∧ c.fg < 4294967296 ∧ 0 ≤ c.bg ∧ c.bg < 4294967296) : Does Try.prog 36 #[.agg c.renc.toArray] E [] fun r H' => r = .bool c.ok ∧ H' = [] := by
  obtain ⟨f0, f1, g0, g1⟩ := h
  refine Does.go (args := [.agg c.renc.toArray]) _ _ Try.func36 rfl Try.ntmps36 rfl rfl ?_
  refine Body.seq ?_
  refine Body.region ?_
  refine Ops.s (Stp.box (lk rfl) rfl (fun b1 => ?_)) rfl
  refine Ops.u (Dtu.asg (lk rfl)) rfl ?_
  refine Ops.nil ?_
  refine Then.next ?_
  refine Body.seq ?_
  refine Body.region ?_
  refine Ops.u (Dtu.fld fa65_0 (lk rfl)) rfl ?_
  refine Ops.d (Det.ld Try.isAgg21 (lk rfl) (Rd.ow 0 rfl rfl)) rfl ?_
  refine Ops.s (Stp.call rfl Try.call80 (lks rfl) (fun E' le hat => ris_ok E' _) ?_) rfl
  rintro _ _ ⟨rfl, rfl⟩
  refine Ops.u (Dtu.mv (lk rfl)) rfl ?_
  refine Ops.dec 6 rfl (fun c6 => ?_) (fun c6 => ?_)
  · refine Ops.gu rfl rfl rfl (Dtu.fld fa65_1 (lk rfl)) rfl ?_
    refine Ops.gd rfl rfl rfl (Det.lda Try.isAgg63 Try.sizeOf63 (lk rfl) (Rds.ow (m := 10) 0 rfl rfl) rfl) rfl ?_
    refine Ops.gs rfl rfl rfl (Stp.call rfl Try.call81 (lks rfl) (fun E' le hat => rstyRight_ok E' _ _ _ (by first | assumption | omega) (by first | assumption | omega) (by first | assumption | omega) (by first | assumption | omega)) ?_) rfl
    rintro _ _ ⟨rfl, rfl⟩
    refine Ops.u (Dtu.pickT (lk rfl) (lk rfl)) rfl ?_
    refine Ops.u (Dtu.asg (lk rfl)) rfl ?_
    refine Ops.nil ?_
    refine Then.next ?_
    refine Body.ret ?_
    (refine ⟨.inr rfl, _, pk [] rfl, bool_eq ?_, rfl⟩; simp [okCell, *])
  · refine Ops.gn rfl rfl rfl rfl rfl ?_
    refine Ops.gn rfl rfl rfl rfl rfl ?_
    refine Ops.gn rfl rfl rfl rfl rfl ?_
    refine Ops.u (Dtu.pickF (lk rfl) (lk rfl)) rfl ?_
    refine Ops.u (Dtu.asg (lk rfl)) rfl ?_
    refine Ops.nil ?_
    refine Then.next ?_
    refine Body.ret ?_
    (refine ⟨.inr rfl, _, pk [] rfl, bool_eq ?_, rfl⟩; simp [okCell, *])
theorem rputCell_ok (E : Env) (c : Cell) (hi : 0 ≤ c.fl ∧ c.fl < 256) (h : c.ok = true) : Does Try.prog 37 #[.agg c.renc.toArray] E [] fun r H' => ∃ s, (4 ≤ c.size ∧ c.size ≤ 25) ∧ r = s ∧ H' = [osl 5 1 s c.size (c.bytes.map (.int .u8))] := by
  have hf : isPt c.pt = true ∧ c.okStyle = true := by simpa [Cell.ok, okCell] using h
  have b1 := isPt_bound hf.1
  have hs := hf.2
  have z1 := sizeS_le c.pt
  have z3 := sizeS_pos (v := c.pt) (by omega)
  refine Does.go (args := [.agg c.renc.toArray]) _ _ Try.func37 rfl Try.ntmps37 rfl rfl ?_
  refine Body.seq ?_
  refine Body.region ?_
  refine Ops.s (Stp.box (lk rfl) rfl (fun b1 => ?_)) rfl
  refine Ops.u (Dtu.asg (lk rfl)) rfl ?_
  refine Ops.nil ?_
  refine Then.next ?_
  refine Body.seq ?_
  refine Body.draw mixed ?_
  refine AB.u 0 rfl (by decide +kernel) (Dtu.fld fa65_1 (lk rfl)) rfl ?_
  refine AB.d 1 rfl (by decide +kernel) rfl (Det.lda Try.isAgg63 Try.sizeOf63 (lk rfl) (Rds.ow (m := 10) 0 rfl rfl) rfl) rfl ?_
  refine AB.u 3 rfl (by decide +kernel) (Dtu.fld fa65_0 (lk rfl)) rfl ?_
  refine AB.d 4 rfl (by decide +kernel) rfl (Det.ld Try.isAgg21 (lk rfl) (Rd.ow 0 rfl rfl)) rfl ?_
  refine AB.u 5 rfl (by decide +kernel) (Dtu.cvt Try.underlying21 Try.underlying75 (lk rfl) (wu64 (by omega) (by omega))) rfl ?_
  refine AB.s 2 rfl (by decide +kernel) (by decide +kernel) (Stp.call rfl Try.call82 (lks rfl) (fun E' le hat => rwriteS_ok E' _ (by first | assumption | (constructor <;> omega)) (by assumption)) ?_) rfl
  rintro _ _ ⟨s5, hz5, rfl, rfl⟩
  refine AB.s 6 rfl (by decide +kernel) (by decide +kernel) (Stp.call rfl Try.call63 (lks rfl) (fun E' le hat => rput_ok E' _ (by omega) (by omega)) ?_) rfl
  rintro _ _ ⟨sp9, rfl, rfl⟩
  refine AB.s 7 rfl (by decide +kernel) (by decide +kernel) (Stp.append 1 Try.underlying32 ty5 rfl rfl (lk rfl) (lk rfl) (Sl.osl 0 rfl) (by first | rfl | exact all_map (fun _ => rfl) _ | exact all_flat (fun _ => rfl) _) (by omega) (by omega) (fun v10 => ?_)) rfl
  refine AB.u 8 rfl (by decide +kernel) (Dtu.asg (lk rfl)) rfl ?_
  refine AB.done (by decide +kernel) ?_
  refine Then.next ?_
  refine Body.ret ?_
  exact ⟨.inr rfl, _, pk [1] rfl, v10, by unfold Cell.size; omega, rfl, by simp [Cell.bytes, Cell.size]⟩
end Go.Proofs.Ytijjjdljdjnbaaa
end
section
/- The document's styles and cells out of bytes. -/
namespace Go.Proofs.Ytijjjdljdjnbaaa
set_option maxRecDepth 100000
set_option linter.unusedVariables false
set_option linter.unusedSimpArgs false
open Go.Sx

theorem col_min {x : Int} (h : 50331647 < x) : isCol (min x 2147483648) = false := by
  simp only [isCol, decide_eq_false_iff_not]; omega
theorem styleR_okSty (bs : List Int) (p : Int) (h : (styleR bs p).2.2 = 0) : okSty (styleR bs p).1.2.1 (styleR bs p).1.2.2 = true := by
  unfold styleR at h ⊢
  split
  · rename_i c; rw [if_pos c] at h; cases h
  · rename_i c; rw [if_neg c] at h
    split
    · rename_i c; rw [if_pos c] at h; cases h
    · rename_i c; rw [if_neg c] at h
      dsimp only at h ⊢
      split
      · rename_i c; rw [if_pos c] at h; exact absurd h c
      · rename_i c; rw [if_neg c] at h
        split
        · rename_i c; rw [if_pos c] at h; exact absurd h c
        · rename_i c; rw [if_neg c] at h
          split
          · rename_i c; exact c
          · rename_i c; rw [if_neg c] at h; cases h
def rstyV (s : Int × Int × Int) : Value := .agg (rsty s.1 s.2.1 s.2.2).toArray
theorem rstyRead_ok (E : Env) (b : Value) (bs : List Int) (p : Int) (h : Sl E [] 1 b bs.length (bs.map (.int .u8))) (hb : Byt bs) : Does Try.prog 79 #[b, .int .i64 p] E [] fun r H' =>
    r = .tuple #[rstyV (styleR bs p).1, .int .i64 (styleR bs p).2.1, .int .i64 (styleR bs p).2.2] ∧ H' = [] := by
  refine Does.pure h.len fun hlen => ?_
  refine Does.go (args := [b, .int .i64 p]) _ _ Try.func79 rfl Try.ntmps79 rfl rfl ?_
  refine Body.seq ?_
  refine Body.region ?_
  refine Ops.s (Stp.alloc ty63 (fun b4 => ?_)) rfl
  refine Ops.u (Dtu.asg (lk rfl)) rfl ?_
  refine Ops.u (Dtu.asg (lk rfl)) rfl ?_
  refine Ops.nil ?_
  refine Then.next ?_
  refine Body.seq ?_
  refine Body.seq ?_
  refine Body.region ?_
  refine Ops.u (Dtu.mv (lk rfl)) rfl ?_
  refine Ops.u (Dtu.lss (lk rfl) (lk rfl)) rfl ?_
  refine Ops.u (Dtu.mv (lk rfl)) rfl ?_
  refine Ops.decP 15 rfl (fun c15 => ?_) (fun c15 => ?_)
  · refine Ops.gn rfl rfl rfl rfl rfl ?_
    refine Ops.gn rfl rfl rfl rfl rfl ?_
    refine Ops.gn rfl rfl rfl rfl rfl ?_
    refine Ops.gn rfl rfl rfl rfl rfl ?_
    refine Ops.u (Dtu.pickT (lk rfl) (lk rfl)) rfl ?_
    refine Ops.nil ?_
    refine Then.next ?_
    refine Body.condT (lk rfl) ?_
    refine Body.seq ?_
    refine Body.region ?_
    refine Ops.u (Dtu.build ty63 pl63 (lkp rfl) rfl rfl) rfl ?_
    refine Ops.e (Stp.store 0 Try.sizeOf63 (lk rfl) (lk rfl) rfl rfl rfl rfl rfl rfl rfl ?_)
    refine Ops.u (Dtu.asg (lk rfl)) rfl ?_
    refine Ops.u (Dtu.asg (lk rfl)) rfl ?_
    refine Ops.nil ?_
    refine Then.next ?_
    refine Body.ret ?_
    refine Then.ret ?_
    refine ⟨.inr rfl, _, Loads.agg Try.isAgg63 Try.sizeOf63 (Rds.ow (m := 10) 0 rfl rfl) rfl, _, pk [] rfl, ?_, rfl⟩
    unfold styleR; rw [if_pos (by omega)]; rfl
  · refine Ops.gu rfl rfl rfl (Dtu.mv (lk rfl)) rfl ?_
    refine Ops.gu rfl rfl rfl (Dtu.mv (lk rfl)) rfl ?_
    refine Ops.gu rfl rfl rfl (Dtu.lenS Try.underlying32 (Sl.up h) (lk rfl)) rfl ?_
    refine Ops.gu rfl rfl rfl (Dtu.gtr (lk rfl) (lk rfl)) rfl ?_
    refine Ops.u (Dtu.pickF (lk rfl) (lk rfl)) rfl ?_
    refine Ops.nil ?_
    refine Then.next ?_
    refine Body.condP (lk rfl) (fun c20 => ?_) (fun c20 => ?_)
    · refine Body.seq ?_
      refine Body.region ?_
      refine Ops.u (Dtu.build ty63 pl63 (lkp rfl) rfl rfl) rfl ?_
      refine Ops.e (Stp.store 0 Try.sizeOf63 (lk rfl) (lk rfl) rfl rfl rfl rfl rfl rfl rfl ?_)
      refine Ops.u (Dtu.asg (lk rfl)) rfl ?_
      refine Ops.u (Dtu.asg (lk rfl)) rfl ?_
      refine Ops.nil ?_
      refine Then.next ?_
      refine Body.ret ?_
      refine Then.ret ?_
      refine ⟨.inr rfl, _, Loads.agg Try.isAgg63 Try.sizeOf63 (Rds.ow (m := 10) 0 rfl rfl) rfl, _, pk [] rfl, ?_, rfl⟩
      unfold styleR; rw [if_pos (by omega)]; rfl
    · refine Body.skip ?_
      refine Then.next ?_
      refine Body.seq ?_
      refine Body.seq ?_
      refine Body.region ?_
      refine Ops.u (Dtu.mv (lk rfl)) rfl ?_
      refine Ops.u (Dtu.mv (lk rfl)) rfl ?_
      refine Ops.u (Dtu.lenS Try.underlying32 (Sl.up h) (lk rfl)) rfl ?_
      refine Ops.u (Dtu.eql (lk rfl) (lk rfl)) rfl ?_
      refine Ops.nil ?_
      refine Then.next ?_
      refine Body.condP (lk rfl) (fun c25 => ?_) (fun c25 => ?_)
      · refine Body.seq ?_
        refine Body.region ?_
        refine Ops.u (Dtu.build ty63 pl63 (lkp rfl) rfl rfl) rfl ?_
        refine Ops.e (Stp.store 0 Try.sizeOf63 (lk rfl) (lk rfl) rfl rfl rfl rfl rfl rfl rfl ?_)
        refine Ops.u (Dtu.asg (lk rfl)) rfl ?_
        refine Ops.u (Dtu.asg (lk rfl)) rfl ?_
        refine Ops.nil ?_
        refine Then.next ?_
        refine Body.ret ?_
        refine Then.ret ?_
        refine ⟨.inr rfl, _, Loads.agg Try.isAgg63 Try.sizeOf63 (Rds.ow (m := 10) 0 rfl rfl) rfl, _, pk [] rfl, ?_, rfl⟩
        unfold styleR; rw [if_neg (by omega), if_pos (by omega)]; rfl
      · obtain ⟨q, rfl⟩ := Int.eq_ofNat_of_zero_le (show 0 ≤ p by omega)
        have hq : q < bs.length := by omega
        obtain ⟨q0, q1⟩ := hb q hq
        have a1 := getS_bound bs hb ((q : Int) + 1)
        have a2 := getS_bound bs hb (getS bs ((q : Int) + 1)).2.1
        have hst : styleR bs (q : Int) = (
            let g1 := getS bs ((q : Int) + 1)
            if g1.2.2 ≠ 0 then ((0, 0, 0), 0, g1.2.2)
            else
              let g2 := getS bs g1.2.1
              if g2.2.2 ≠ 0 then ((0, 0, 0), 0, g2.2.2)
              else
                let fg := min g1.1 2147483648
                let bg := min g2.1 2147483648
                if isCol fg && isCol bg then ((bs[q]!, fg, bg), g2.2.1, 0) else ((0, 0, 0), 0, 3)) := by
          unfold styleR
          rw [if_neg (by omega), if_neg (by omega)]
          simp only [Int.toNat_natCast]
        dsimp only at hst
        refine Body.skip ?_
        refine Then.next ?_
        refine Body.seq ?_
        refine Body.region ?_
        refine Ops.u (Dtu.mv (lk rfl)) rfl ?_
        refine Ops.u (Dtu.mv (lk rfl)) rfl ?_
        refine Ops.u (Dtu.add (lk rfl) (lk rfl) (w64 (by omega) (by omega))) rfl ?_
        refine Ops.s (Stp.call rfl Try.call66 (lks rfl) (fun E' le hat => rget_ok E' _ _ _ (Sl.mono (by assumption) le) (by assumption)) ?_) rfl
        rintro _ _ ⟨rfl, rfl⟩
        refine Ops.u (Dtu.mv (lk rfl)) rfl ?_
        refine Ops.u (Dtu.ext (lk rfl) rfl) rfl ?_
        refine Ops.u (Dtu.ext (lk rfl) rfl) rfl ?_
        refine Ops.u (Dtu.ext (lk rfl) rfl) rfl ?_
        refine Ops.u (Dtu.asg (lk rfl)) rfl ?_
        refine Ops.u (Dtu.asg (lk rfl)) rfl ?_
        refine Ops.u (Dtu.asg (lk rfl)) rfl ?_
        refine Ops.nil ?_
        refine Then.next ?_
        refine Body.seq ?_
        refine Body.seq ?_
        refine Body.region ?_
        refine Ops.u (Dtu.mv (lk rfl)) rfl ?_
        refine Ops.u (Dtu.neq (lk rfl) (lk rfl)) rfl ?_
        refine Ops.nil ?_
        refine Then.next ?_
        refine Body.condP (lk rfl) (fun c36 => ?_) (fun c36 => ?_)
        · refine Body.seq ?_
          refine Body.region ?_
          refine Ops.u (Dtu.build ty63 pl63 (lkp rfl) rfl rfl) rfl ?_
          refine Ops.u (Dtu.mv (lk rfl)) rfl ?_
          refine Ops.e (Stp.store 0 Try.sizeOf63 (lk rfl) (lk rfl) rfl rfl rfl rfl rfl rfl rfl ?_)
          refine Ops.u (Dtu.asg (lk rfl)) rfl ?_
          refine Ops.u (Dtu.asg (lk rfl)) rfl ?_
          refine Ops.nil ?_
          refine Then.next ?_
          refine Body.ret ?_
          refine Then.ret ?_
          refine ⟨.inr rfl, _, Loads.agg Try.isAgg63 Try.sizeOf63 (Rds.ow (m := 10) 0 rfl rfl) rfl, _, pk [] rfl, ?_, rfl⟩
          rw [hst, if_pos (by assumption)]; rfl
        · refine Body.skip ?_
          refine Then.next ?_
          refine Body.seq ?_
          refine Body.region ?_
          refine Ops.u (Dtu.mv (lk rfl)) rfl ?_
          refine Ops.u (Dtu.mv (lk rfl)) rfl ?_
          refine Ops.s (Stp.call rfl Try.call66 (lks rfl) (fun E' le hat => rget_ok E' _ _ _ (Sl.mono (by assumption) le) (by assumption)) ?_) rfl
          rintro _ _ ⟨rfl, rfl⟩
          refine Ops.u (Dtu.mv (lk rfl)) rfl ?_
          refine Ops.u (Dtu.ext (lk rfl) rfl) rfl ?_
          refine Ops.u (Dtu.ext (lk rfl) rfl) rfl ?_
          refine Ops.u (Dtu.ext (lk rfl) rfl) rfl ?_
          refine Ops.u (Dtu.asg (lk rfl)) rfl ?_
          refine Ops.u (Dtu.asg (lk rfl)) rfl ?_
          refine Ops.u (Dtu.asg (lk rfl)) rfl ?_
          refine Ops.nil ?_
          refine Then.next ?_
          refine Body.seq ?_
          refine Body.seq ?_
          refine Body.region ?_
          refine Ops.u (Dtu.mv (lk rfl)) rfl ?_
          refine Ops.u (Dtu.neq (lk rfl) (lk rfl)) rfl ?_
          refine Ops.nil ?_
          refine Then.next ?_
          refine Body.condP (lk rfl) (fun c47 => ?_) (fun c47 => ?_)
          · refine Body.seq ?_
            refine Body.region ?_
            refine Ops.u (Dtu.build ty63 pl63 (lkp rfl) rfl rfl) rfl ?_
            refine Ops.u (Dtu.mv (lk rfl)) rfl ?_
            refine Ops.e (Stp.store 0 Try.sizeOf63 (lk rfl) (lk rfl) rfl rfl rfl rfl rfl rfl rfl ?_)
            refine Ops.u (Dtu.asg (lk rfl)) rfl ?_
            refine Ops.u (Dtu.asg (lk rfl)) rfl ?_
            refine Ops.nil ?_
            refine Then.next ?_
            refine Body.ret ?_
            refine Then.ret ?_
            refine ⟨.inr rfl, _, Loads.agg Try.isAgg63 Try.sizeOf63 (Rds.ow (m := 10) 0 rfl rfl) rfl, _, pk [] rfl, ?_, rfl⟩
            rw [hst, if_neg (by assumption), if_pos (by assumption)]; rfl
          · generalize hX : (getS bs ((q : Int) + 1)).1 = X at *
            generalize hY : (getS bs (getS bs ((q : Int) + 1)).2.1).1 = Y at *
            refine Body.skip ?_
            refine Then.next ?_
            refine Body.seq ?_
            refine Body.seq ?_
            refine Body.region ?_
            refine Ops.u (Dtu.mv (lk rfl)) rfl ?_
            refine Ops.u (Dtu.gtr (lk rfl) (lk rfl)) rfl ?_
            refine Ops.u (Dtu.mv (lk rfl)) rfl ?_
            refine Ops.decP 52 rfl (fun c52 => ?_) (fun c52 => ?_)
            · refine Ops.gn rfl rfl rfl rfl rfl ?_
              refine Ops.gn rfl rfl rfl rfl rfl ?_
              refine Ops.u (Dtu.pickT (lk rfl) (lk rfl)) rfl ?_
              refine Ops.nil ?_
              refine Then.next ?_
              refine Body.condT (lk rfl) ?_
              refine Body.seq ?_
              refine Body.region ?_
              refine Ops.u (Dtu.build ty63 pl63 (lkp rfl) rfl rfl) rfl ?_
              refine Ops.e (Stp.store 0 Try.sizeOf63 (lk rfl) (lk rfl) rfl rfl rfl rfl rfl rfl rfl ?_)
              refine Ops.u (Dtu.asg (lk rfl)) rfl ?_
              refine Ops.u (Dtu.asg (lk rfl)) rfl ?_
              refine Ops.nil ?_
              refine Then.next ?_
              refine Body.ret ?_
              refine Then.ret ?_
              refine ⟨.inr rfl, _, Loads.agg Try.isAgg63 Try.sizeOf63 (Rds.ow (m := 10) 0 rfl rfl) rfl, _, pk [] rfl, ?_, rfl⟩
              rw [hst, if_neg (by assumption), if_neg (by assumption), if_neg (by
                rw [col_min (x := X) (by omega)]; simp)]; rfl
            · refine Ops.gu rfl rfl rfl (Dtu.mv (lk rfl)) rfl ?_
              refine Ops.gu rfl rfl rfl (Dtu.gtr (lk rfl) (lk rfl)) rfl ?_
              refine Ops.u (Dtu.pickF (lk rfl) (lk rfl)) rfl ?_
              refine Ops.nil ?_
              refine Then.next ?_
              refine Body.condP (lk rfl) (fun c55 => ?_) (fun c55 => ?_)
              · refine Body.seq ?_
                refine Body.region ?_
                refine Ops.u (Dtu.build ty63 pl63 (lkp rfl) rfl rfl) rfl ?_
                refine Ops.e (Stp.store 0 Try.sizeOf63 (lk rfl) (lk rfl) rfl rfl rfl rfl rfl rfl rfl ?_)
                refine Ops.u (Dtu.asg (lk rfl)) rfl ?_
                refine Ops.u (Dtu.asg (lk rfl)) rfl ?_
                refine Ops.nil ?_
                refine Then.next ?_
                refine Body.ret ?_
                refine Then.ret ?_
                refine ⟨.inr rfl, _, Loads.agg Try.isAgg63 Try.sizeOf63 (Rds.ow (m := 10) 0 rfl rfl) rfl, _, pk [] rfl, ?_, rfl⟩
                rw [hst, if_neg (by assumption), if_neg (by assumption), if_neg (by
                  rw [col_min (x := Y) (by omega)]; simp)]; rfl
              · rw [show min X 2147483648 = X by omega, show min Y 2147483648 = Y by omega] at hst
                refine Body.skip ?_
                refine Then.next ?_
                refine Body.seq ?_
                refine Body.region ?_
                refine Ops.u (Dtu.mv (lk rfl)) rfl ?_
                refine Ops.u (Dtu.mv (lk rfl)) rfl ?_
                refine Ops.u (Dtu.ix (i := (q)) Try.underlying32 Try.sizeOf5 (Sl.up h) (lk rfl) (lk rfl) (by omega) (by omega)) rfl ?_
                refine Ops.d (Det.ld Try.isAgg5 (lk rfl) (Rd.sl (Sl.up h) (gm (by omega)))) rfl ?_
                refine Ops.u (Dtu.mv (lk rfl)) rfl ?_
                refine Ops.u (Dtu.cvt Try.underlying75 Try.underlying51 (lk rfl) (wu32 (by omega) (by omega))) rfl ?_
                refine Ops.u (Dtu.mv (lk rfl)) rfl ?_
                refine Ops.u (Dtu.cvt Try.underlying75 Try.underlying51 (lk rfl) (wu32 (by omega) (by omega))) rfl ?_
                refine Ops.s (Stp.call rfl Try.call117 (lks rfl) (fun E' le hat => rof_ok E' _ _ _ (by first | assumption | omega) (by first | assumption | omega)) ?_) rfl
                rintro _ _ ⟨rfl, rfl⟩
                refine Ops.s (Stp.alloc ty63 (fun b12 => ?_)) rfl
                refine Ops.e (Stp.store 0 Try.sizeOf63 (lk rfl) (lk rfl) rfl rfl rfl rfl rfl rfl rfl ?_)
                refine Ops.nil ?_
                refine Then.next ?_
                refine Body.seq ?_
                refine Body.seq ?_
                refine Body.region ?_
                refine Ops.d (Det.lda Try.isAgg63 Try.sizeOf63 (lk rfl) (Rds.ow (m := 10) 0 rfl rfl) rfl) rfl ?_
                refine Ops.s (Stp.call rfl Try.call81 (lks rfl) (fun E' le hat => rstyRight_ok E' _ _ _ (by first | assumption | omega) (by first | assumption | omega) (by first | assumption | omega) (by first | assumption | omega)) ?_) rfl
                rintro _ _ ⟨rfl, rfl⟩
                refine Ops.u (Dtu.not (lk rfl)) rfl ?_
                refine Ops.nil ?_
                refine Then.next ?_
                refine Body.cond (lk rfl) (fun c68 => ?_) (fun c68 => ?_)
                · refine Body.seq ?_
                  refine Body.region ?_
                  refine Ops.u (Dtu.build ty63 pl63 (lkp rfl) rfl rfl) rfl ?_
                  refine Ops.e (Stp.store 1 Try.sizeOf63 (lk rfl) (lk rfl) rfl rfl rfl rfl rfl rfl rfl ?_)
                  refine Ops.u (Dtu.asg (lk rfl)) rfl ?_
                  refine Ops.u (Dtu.asg (lk rfl)) rfl ?_
                  refine Ops.nil ?_
                  refine Then.next ?_
                  refine Body.ret ?_
                  refine Then.ret ?_
                  refine ⟨.inr rfl, _, Loads.agg Try.isAgg63 Try.sizeOf63 (Rds.ow (m := 10) 1 rfl rfl) rfl, _, pk [] rfl, ?_, rfl⟩
                  rw [hst, if_neg (by assumption), if_neg (by assumption), if_neg (fun hh => by have hh' : okSty X Y = true := hh; simp [hh'] at c68)]; rfl
                · refine Body.skip ?_
                  refine Then.next ?_
                  refine Body.seq ?_
                  refine Body.region ?_
                  refine Ops.d (Det.lda Try.isAgg63 Try.sizeOf63 (lk rfl) (Rds.ow (m := 10) 0 rfl rfl) rfl) rfl ?_
                  refine Ops.u (Dtu.mv (lk rfl)) rfl ?_
                  refine Ops.u (Dtu.mv (lk rfl)) rfl ?_
                  refine Ops.e (Stp.store 1 Try.sizeOf63 (lk rfl) (lk rfl) rfl rfl rfl rfl rfl rfl rfl ?_)
                  refine Ops.u (Dtu.asg (lk rfl)) rfl ?_
                  refine Ops.u (Dtu.asg (lk rfl)) rfl ?_
                  refine Ops.nil ?_
                  refine Then.next ?_
                  refine Body.ret ?_
                  refine ⟨.inr rfl, _, Loads.agg Try.isAgg63 Try.sizeOf63 (Rds.ow (m := 10) 1 rfl rfl) rfl, _, pk [] rfl, ?_, rfl⟩
                  rw [hst, if_neg (by assumption), if_neg (by assumption), if_pos (by simpa [okSty] using c68)]
                  have e0 : (getS bs (getS bs ((q : Int) + 1)).2.1).2.2 = 0 := by omega
                  show Value.tuple #[_, _, .int .i64 (getS bs (getS bs ((q : Int) + 1)).2.1).2.2] = _
                  rw [e0]; rfl
theorem rgetCell_ok (E : Env) (b : Value) (bs : List Int) (p : Int) (h : Sl E [] 1 b bs.length (bs.map (.int .u8))) (hb : Byt bs) : Does Try.prog 35 #[b, .int .i64 p] E [] fun r H' =>
    r = .tuple #[.agg (cellR bs p).1.renc.toArray, .int .i64 (cellR bs p).2.1, .int .i64 (cellR bs p).2.2] ∧ H' = [] := by
  refine Does.pure h.len fun hlen => ?_
  have hst : cellR bs p = (if (styleR bs p).2.2 ≠ 0 then (⟨0, 0, 0, 0⟩, 0, (styleR bs p).2.2) else if (getS bs (styleR bs p).2.1).2.2 ≠ 0 then (⟨0, 0, 0, 0⟩, 0, (getS bs (styleR bs p).2.1).2.2)
    else if (Cell.ok ⟨min (getS bs (styleR bs p).2.1).1 1114112, (styleR bs p).1.1, (styleR bs p).1.2.1, (styleR bs p).1.2.2⟩) then (⟨min (getS bs (styleR bs p).2.1).1 1114112, (styleR bs p).1.1, (styleR bs p).1.2.1, (styleR bs p).1.2.2⟩, (getS bs (styleR bs p).2.1).2.1, 0) else (⟨0, 0, 0, 0⟩, 0, 3)) := rfl
  have a1 := getS_bound bs hb (styleR bs p).2.1
  refine Does.go (args := [b, .int .i64 p]) _ _ Try.func35 rfl Try.ntmps35 rfl rfl ?_
  refine Body.seq ?_
  refine Body.region ?_
  refine Ops.s (Stp.alloc ty65 (fun b4 => ?_)) rfl
  refine Ops.u (Dtu.asg (lk rfl)) rfl ?_
  refine Ops.u (Dtu.asg (lk rfl)) rfl ?_
  refine Ops.nil ?_
  refine Then.next ?_
  refine Body.seq ?_
  refine Body.region ?_
  refine Ops.u (Dtu.mv (lk rfl)) rfl ?_
  refine Ops.u (Dtu.mv (lk rfl)) rfl ?_
  refine Ops.s (Stp.call rfl Try.call79 (lks rfl) (fun E' le hat => rstyRead_ok E' _ _ _ (Sl.mono (by assumption) le) (by assumption)) ?_) rfl
  rintro _ _ ⟨rfl, rfl⟩
  refine Ops.u (Dtu.mv (lk rfl)) rfl ?_
  refine Ops.u (Dtu.ext (lk rfl) rfl) rfl ?_
  refine Ops.u (Dtu.ext (lk rfl) rfl) rfl ?_
  refine Ops.u (Dtu.ext (lk rfl) rfl) rfl ?_
  refine Ops.s (Stp.alloc ty63 (fun b7 => ?_)) rfl
  refine Ops.e (Stp.store 0 Try.sizeOf63 (lk rfl) (lk rfl) rfl rfl rfl rfl rfl rfl rfl ?_)
  refine Ops.u (Dtu.asg (lk rfl)) rfl ?_
  refine Ops.u (Dtu.asg (lk rfl)) rfl ?_
  refine Ops.nil ?_
  refine Then.next ?_
  refine Body.seq ?_
  refine Body.seq ?_
  refine Body.region ?_
  refine Ops.u (Dtu.mv (lk rfl)) rfl ?_
  refine Ops.u (Dtu.neq (lk rfl) (lk rfl)) rfl ?_
  refine Ops.nil ?_
  refine Then.next ?_
  refine Body.condP (lk rfl) (fun c20 => ?_) (fun c20 => ?_)
  · refine Body.seq ?_
    refine Body.region ?_
    refine Ops.u (Dtu.build ty65 pl65 (lkp rfl) rfl rfl) rfl ?_
    refine Ops.u (Dtu.mv (lk rfl)) rfl ?_
    refine Ops.e (Stp.store 1 Try.sizeOf65 (lk rfl) (lk rfl) rfl rfl rfl rfl rfl rfl rfl ?_)
    refine Ops.u (Dtu.asg (lk rfl)) rfl ?_
    refine Ops.u (Dtu.asg (lk rfl)) rfl ?_
    refine Ops.nil ?_
    refine Then.next ?_
    refine Body.ret ?_
    refine Then.ret ?_
    refine ⟨.inr rfl, _, Loads.agg Try.isAgg65 Try.sizeOf65 (Rds.ow (m := 11) 1 rfl rfl) rfl, _, pk [] rfl, ?_, rfl⟩
    rw [hst, if_pos (by assumption)]; rfl
  · refine Body.skip ?_
    refine Then.next ?_
    refine Body.seq ?_
    refine Body.region ?_
    refine Ops.u (Dtu.mv (lk rfl)) rfl ?_
    refine Ops.u (Dtu.mv (lk rfl)) rfl ?_
    refine Ops.s (Stp.call rfl Try.call66 (lks rfl) (fun E' le hat => rget_ok E' _ _ _ (Sl.mono (by assumption) le) (by assumption)) ?_) rfl
    rintro _ _ ⟨rfl, rfl⟩
    refine Ops.u (Dtu.mv (lk rfl)) rfl ?_
    refine Ops.u (Dtu.ext (lk rfl) rfl) rfl ?_
    refine Ops.u (Dtu.ext (lk rfl) rfl) rfl ?_
    refine Ops.u (Dtu.ext (lk rfl) rfl) rfl ?_
    refine Ops.u (Dtu.asg (lk rfl)) rfl ?_
    refine Ops.u (Dtu.asg (lk rfl)) rfl ?_
    refine Ops.u (Dtu.asg (lk rfl)) rfl ?_
    refine Ops.nil ?_
    refine Then.next ?_
    refine Body.seq ?_
    refine Body.seq ?_
    refine Body.region ?_
    refine Ops.u (Dtu.mv (lk rfl)) rfl ?_
    refine Ops.u (Dtu.neq (lk rfl) (lk rfl)) rfl ?_
    refine Ops.nil ?_
    refine Then.next ?_
    refine Body.condP (lk rfl) (fun c31 => ?_) (fun c31 => ?_)
    · refine Body.seq ?_
      refine Body.region ?_
      refine Ops.u (Dtu.build ty65 pl65 (lkp rfl) rfl rfl) rfl ?_
      refine Ops.u (Dtu.mv (lk rfl)) rfl ?_
      refine Ops.e (Stp.store 1 Try.sizeOf65 (lk rfl) (lk rfl) rfl rfl rfl rfl rfl rfl rfl ?_)
      refine Ops.u (Dtu.asg (lk rfl)) rfl ?_
      refine Ops.u (Dtu.asg (lk rfl)) rfl ?_
      refine Ops.nil ?_
      refine Then.next ?_
      refine Body.ret ?_
      refine Then.ret ?_
      refine ⟨.inr rfl, _, Loads.agg Try.isAgg65 Try.sizeOf65 (Rds.ow (m := 11) 1 rfl rfl) rfl, _, pk [] rfl, ?_, rfl⟩
      rw [hst, if_neg (by assumption), if_pos (by assumption)]; rfl
    · generalize hX : (getS bs (styleR bs p).2.1).1 = X at *
      refine Body.skip ?_
      refine Then.next ?_
      refine Body.seq ?_
      refine Body.seq ?_
      refine Body.region ?_
      refine Ops.u (Dtu.mv (lk rfl)) rfl ?_
      refine Ops.u (Dtu.gtr (lk rfl) (lk rfl)) rfl ?_
      refine Ops.u (Dtu.mv (lk rfl)) rfl ?_
      refine Ops.decP 36 rfl (fun c36 => ?_) (fun c36 => ?_)
      · refine Ops.gn rfl rfl rfl rfl rfl ?_
        refine Ops.gn rfl rfl rfl rfl rfl ?_
        refine Ops.gn rfl rfl rfl rfl rfl ?_
        refine Ops.gn rfl rfl rfl rfl rfl ?_
        refine Ops.u (Dtu.pickT (lk rfl) (lk rfl)) rfl ?_
        refine Ops.nil ?_
        refine Then.next ?_
        refine Body.condT (lk rfl) ?_
        refine Body.seq ?_
        refine Body.region ?_
        refine Ops.u (Dtu.build ty65 pl65 (lkp rfl) rfl rfl) rfl ?_
        refine Ops.e (Stp.store 1 Try.sizeOf65 (lk rfl) (lk rfl) rfl rfl rfl rfl rfl rfl rfl ?_)
        refine Ops.u (Dtu.asg (lk rfl)) rfl ?_
        refine Ops.u (Dtu.asg (lk rfl)) rfl ?_
        refine Ops.nil ?_
        refine Then.next ?_
        refine Body.ret ?_
        refine Then.ret ?_
        refine ⟨.inr rfl, _, Loads.agg Try.isAgg65 Try.sizeOf65 (Rds.ow (m := 11) 1 rfl rfl) rfl, _, pk [] rfl, ?_, rfl⟩
        have e : isPt (min X 1114112) = false := by simp only [isPt, decide_eq_false_iff_not]; omega
        rw [hst, if_neg (by assumption), if_neg (by assumption), if_neg (by simp [Cell.ok, okCell, e])]; rfl
      · rw [show min X 1114112 = X by omega] at hst
        refine Ops.gu rfl rfl rfl (Dtu.mv (lk rfl)) rfl ?_
        refine Ops.gu rfl rfl rfl (Dtu.cvt Try.underlying75 Try.underlying21 (lk rfl) (w32 (by omega) (by omega))) rfl ?_
        refine Ops.gs rfl rfl rfl (Stp.call rfl Try.call80 (lks rfl) (fun E' le hat => ris_ok E' _) ?_) rfl
        rintro _ _ ⟨rfl, rfl⟩
        refine Ops.gu rfl rfl rfl (Dtu.not (lk rfl)) rfl ?_
        refine Ops.u (Dtu.pickF (lk rfl) (lk rfl)) rfl ?_
        refine Ops.nil ?_
        refine Then.next ?_
        refine Body.cond (lk rfl) (fun c41 => ?_) (fun c41 => ?_)
        · refine Body.seq ?_
          refine Body.region ?_
          refine Ops.u (Dtu.build ty65 pl65 (lkp rfl) rfl rfl) rfl ?_
          refine Ops.e (Stp.store 1 Try.sizeOf65 (lk rfl) (lk rfl) rfl rfl rfl rfl rfl rfl rfl ?_)
          refine Ops.u (Dtu.asg (lk rfl)) rfl ?_
          refine Ops.u (Dtu.asg (lk rfl)) rfl ?_
          refine Ops.nil ?_
          refine Then.next ?_
          refine Body.ret ?_
          refine Then.ret ?_
          refine ⟨.inr rfl, _, Loads.agg Try.isAgg65 Try.sizeOf65 (Rds.ow (m := 11) 1 rfl rfl) rfl, _, pk [] rfl, ?_, rfl⟩
          rw [hst, if_neg (by assumption), if_neg (by assumption), if_neg (by simp [Cell.ok, okCell]; intro hh; simp [hh] at c41)]; rfl
        · refine Body.skip ?_
          refine Then.next ?_
          refine Body.seq ?_
          refine Body.region ?_
          refine Ops.u (Dtu.mv (lk rfl)) rfl ?_
          refine Ops.u (Dtu.cvt Try.underlying75 Try.underlying21 (lk rfl) (w32 (by omega) (by omega))) rfl ?_
          refine Ops.d (Det.lda Try.isAgg63 Try.sizeOf63 (lk rfl) (Rds.ow (m := 10) 0 rfl rfl) rfl) rfl ?_
          refine Ops.u (Dtu.build ty65 pl65 (lkp rfl) rfl rfl) rfl ?_
          refine Ops.u (Dtu.mv (lk rfl)) rfl ?_
          refine Ops.u (Dtu.mv (lk rfl)) rfl ?_
          refine Ops.e (Stp.store 1 Try.sizeOf65 (lk rfl) (lk rfl) rfl rfl rfl rfl rfl rfl rfl ?_)
          refine Ops.u (Dtu.asg (lk rfl)) rfl ?_
          refine Ops.u (Dtu.asg (lk rfl)) rfl ?_
          refine Ops.nil ?_
          refine Then.next ?_
          refine Body.ret ?_
          refine ⟨.inr rfl, _, Loads.agg Try.isAgg65 Try.sizeOf65 (Rds.ow (m := 11) 1 rfl rfl) rfl, _, pk [] rfl, ?_, rfl⟩
          have hp : isPt X = true := by simpa using c41
          have e0 : (getS bs (styleR bs p).2.1).2.2 = 0 := by omega
          rw [hst, if_neg (by assumption), if_neg (by assumption), if_pos (by simp only [Cell.ok, okCell, hp, styleR_okSty bs p (by omega), Bool.and_self])]
          show Value.tuple #[_, _, .int .i64 (getS bs (styleR bs p).2.1).2.2] = _
          rw [e0]; rfl
end Go.Proofs.Ytijjjdljdjnbaaa
end
section
/- The document's cells: which are equal. -/
namespace Go.Proofs.Ytijjjdljdjnbaaa
set_option maxRecDepth 100000
set_option linter.unusedVariables false
set_option linter.unusedSimpArgs false
open Go.Sx

/-- an array's items, each equal -/
def IE (P : Program) (d e c : Nat) (xs ys : List Value) (is : List Nat) (b : Bool) : Prop := ∀ w, (Op.eqItems d e c xs.toArray ys.toArray is).run P w = .ok b w
theorem IE.nil {P : Program} {d e c : Nat} {xs ys : List Value} : IE P d e c xs ys [] true := fun w => by simp [Op.eqItems]
theorem IE.cons {P : Program} {d e c i : Nat} {xs ys : List Value} {is : List Nat} {a b : Value} {r q : Bool} (ha : ∀ w, (part e xs.toArray (i * c)).run P w = .ok a w) (hb : ∀ w, (part e ys.toArray (i * c)).run P w = .ok b w) (he : EqD P d e a b r) (hr : IE P d e c xs ys is q) : IE P d e c xs ys (i :: is) (r && q) := fun w => by
  simp only [Op.eqItems, Sem.run_bind, ha, hb, he w, Result.andThen_ok]
  cases r
  · simp
  · simpa using hr w
theorem EqD.array {P : Program} {d : Nat} {T e : TypeId} {n c : Nat} {i : TypeInfo} {xs ys : List Value} {b : Bool} (hu : P.underlying T = some (.array n e)) (hi : P.info? e = some i) (hc : P.cellsOf e = c) (h : IE P d e c xs ys (List.range n) b) : EqD P (d + 1) T (.agg xs.toArray) (.agg ys.toArray) b := fun w => by
  rw [run_equalIn_array w d _ _ hu hi, hc]
  exact h w
abbrev bits (fl : Int) : List Value := [.bool (bit8 fl 0), .bool (bit8 fl 1), .bool (bit8 fl 2), .bool (bit8 fl 3), .bool (bit8 fl 4), .bool (bit8 fl 5), .bool (bit8 fl 6), .bool (bit8 fl 7)]
def bitsEq (x y : Int) : Bool := (bit8 x 0 == bit8 y 0) && ((bit8 x 1 == bit8 y 1) && ((bit8 x 2 == bit8 y 2) && ((bit8 x 3 == bit8 y 3) && ((bit8 x 4 == bit8 y 4) && ((bit8 x 5 == bit8 y 5) && ((bit8 x 6 == bit8 y 6) && ((bit8 x 7 == bit8 y 7) && true)))))))
theorem eqBits (d : Nat) (x y : Int) : EqD Try.prog (d + 2) 61 (.agg (bits x).toArray) (.agg (bits y).toArray) (bitsEq x y) :=
  EqD.array Try.underlying61 (by kernel_rfl : Try.prog.info? 4 = some Try.t4) (by kernel_rfl : Try.prog.cellsOf 4 = 1)
    (.cons (part_v Try.isAgg4 rfl) (part_v Try.isAgg4 rfl) (EqD.bool Try.underlying4) (.cons (part_v Try.isAgg4 rfl) (part_v Try.isAgg4 rfl) (EqD.bool Try.underlying4)
      (.cons (part_v Try.isAgg4 rfl) (part_v Try.isAgg4 rfl) (EqD.bool Try.underlying4) (.cons (part_v Try.isAgg4 rfl) (part_v Try.isAgg4 rfl) (EqD.bool Try.underlying4)
        (.cons (part_v Try.isAgg4 rfl) (part_v Try.isAgg4 rfl) (EqD.bool Try.underlying4) (.cons (part_v Try.isAgg4 rfl) (part_v Try.isAgg4 rfl) (EqD.bool Try.underlying4)
          (.cons (part_v Try.isAgg4 rfl) (part_v Try.isAgg4 rfl) (EqD.bool Try.underlying4) (.cons (part_v Try.isAgg4 rfl) (part_v Try.isAgg4 rfl) (EqD.bool Try.underlying4) .nil))))))))
def byB (b : Nat → Bool) : Int := (if b 0 then 1 else 0) + (if b 1 then 2 else 0) + (if b 2 then 4 else 0) + (if b 3 then 8 else 0) + (if b 4 then 16 else 0) + (if b 5 then 32 else 0) + (if b 6 then 64 else 0) + (if b 7 then 128 else 0)
theorem byB_bit8 : ∀ c : Fin 256, byB (bit8 (c.val : Int)) = (c.val : Int) := by decide +kernel
theorem bitsEq_iff {x y : Int} (hx : 0 ≤ x ∧ x < 256) (hy : 0 ≤ y ∧ y < 256) : bitsEq x y = true ↔ x = y := by
  constructor
  · intro h
    simp only [bitsEq, Bool.and_true, Bool.and_eq_true, beq_iff_eq] at h
    obtain ⟨h0, h1, h2, h3, h4, h5, h6, h7⟩ := h
    obtain ⟨m, rfl⟩ := Int.eq_ofNat_of_zero_le hx.1
    obtain ⟨n, rfl⟩ := Int.eq_ofNat_of_zero_le hy.1
    have e1 : byB (bit8 (m : Int)) = (m : Int) := byB_bit8 ⟨m, by omega⟩
    have e2 : byB (bit8 (n : Int)) = (n : Int) := byB_bit8 ⟨n, by omega⟩
    rw [← e1, ← e2]
    unfold byB
    rw [h0, h1, h2, h3, h4, h5, h6, h7]
  · rintro rfl
    simp [bitsEq]
def reqB (a b : Cell) : Bool := (a.pt == b.pt) && ((bitsEq a.fl b.fl && ((a.fg == b.fg) && ((a.bg == b.bg) && true))) && true)
theorem eq65 (a b : Cell) : EqAgg Try.prog 65 a.renc b.renc (reqB a b) :=
  EqAgg.mk fun k => EqD.struct Try.underlying65 (by kernel_rfl) (FE.cons rfl (part_v Try.isAgg21 rfl) (part_v Try.isAgg21 rfl) (EqD.int Try.underlying21)
      (FE.cons rfl (part_a Try.isAgg63 Try.sizeOf63 rfl) (part_a Try.isAgg63 Try.sizeOf63 rfl)
        (EqD.struct Try.underlying63 (by kernel_rfl) (FE.cons rfl (part_a Try.isAgg61 Try.sizeOf61 rfl) (part_a Try.isAgg61 Try.sizeOf61 rfl) (eqBits _ _ _)
          (FE.cons rfl (part_v Try.isAgg51 rfl) (part_v Try.isAgg51 rfl) (EqD.int Try.underlying51) (FE.cons rfl (part_v Try.isAgg51 rfl) (part_v Try.isAgg51 rfl) (EqD.int Try.underlying51) FE.nil)))) FE.nil))
theorem eqGuard65 : Try.prog.eqGuardType Try.prog.depth 65 = false := by kernel_rfl
theorem reqB_iff {a b : Cell} (ha : a.Fl) (hb : b.Fl) : reqB a b = true ↔ a = b := by
  cases a; cases b
  simp only [reqB, Bool.and_true, Bool.and_eq_true, beq_iff_eq, bitsEq_iff ha hb, Cell.mk.injEq]
end Go.Proofs.Ytijjjdljdjnbaaa
end
