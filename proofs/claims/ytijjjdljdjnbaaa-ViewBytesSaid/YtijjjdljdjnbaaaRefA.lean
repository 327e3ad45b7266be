/- The document's numbers (longlineref01), points and styles. -/
import Derived.Test.YtijjjdljdjnbaaaWR
namespace Go.Proofs.Ytijjjdljdjnbaaa
set_option maxRecDepth 100000
set_option linter.unusedVariables false
set_option linter.unusedSimpArgs false
open Go.Sx

theorem sizeS_is (v : Int) (n : Nat) (h : (v < 64 ∧ n = 1) ∨ (64 ≤ v ∧ v < 16384 ∧ n = 2) ∨ (16384 ≤ v ∧ v < 1073741824 ∧ n = 4) ∨ (1073741824 ≤ v ∧ v < 4611686018427387904 ∧ n = 8) ∨ (4611686018427387904 ≤ v ∧ n = 0)) : sizeS v = n := by
  have key : ∀ k, classS v = k → sizeS v = if k = 4 then 0 else 2 ^ k := fun k h => by unfold sizeS; rw [h]
  rcases h with ⟨h1, rfl⟩ | ⟨h0, h1, rfl⟩ | ⟨h0, h1, rfl⟩ | ⟨h0, h1, rfl⟩ | ⟨h0, rfl⟩
  · rw [key 0 (by unfold classS; repeat (first | rw [if_pos (by omega)] | rw [if_neg (by omega)]))]; rfl
  · rw [key 1 (by unfold classS; repeat (first | rw [if_pos (by omega)] | rw [if_neg (by omega)]))]; rfl
  · rw [key 2 (by unfold classS; repeat (first | rw [if_pos (by omega)] | rw [if_neg (by omega)]))]; rfl
  · rw [key 3 (by unfold classS; repeat (first | rw [if_pos (by omega)] | rw [if_neg (by omega)]))]; rfl
  · rw [key 4 (by unfold classS; repeat (first | rw [if_pos (by omega)] | rw [if_neg (by omega)]))]; rfl
theorem rsize_ok (E : Env) (v : Int) : Does Try.prog 105 #[.int .u64 v] E [] fun r H' => r = .int .i64 (sizeS v) ∧ H' = [] := by
  refine Does.go (args := [.int .u64 v]) _ _ Try.func105 rfl Try.ntmps105 rfl rfl ?_
  refine Body.seq ?_
  refine Body.region ?_
  refine Ops.u (Dtu.asg (lk rfl)) rfl ?_
  refine Ops.nil ?_
  refine Then.next ?_
  refine Body.seq ?_
  refine Body.seq ?_
  refine Body.region ?_
  refine Ops.u (Dtu.mv (lk rfl)) rfl ?_
  refine Ops.u (Dtu.lss (lk rfl) (lk rfl)) rfl ?_
  refine Ops.nil ?_
  refine Then.next ?_
  refine Body.condP (lk rfl) (fun c4 => ?_) (fun c4 => ?_)
  · refine Body.seq ?_
    refine Body.region ?_
    refine Ops.u (Dtu.asg (lk rfl)) rfl ?_
    refine Ops.nil ?_
    refine Then.next ?_
    refine Body.ret ?_
    refine Then.ret ?_
    (first | exact ⟨.inr rfl, _, pk [] rfl, by rw [sizeS_is v 1 (by omega)]; rfl, rfl⟩ | exact ⟨.inr rfl, _, pk [] rfl, by rw [sizeS_is v 2 (by omega)]; rfl, rfl⟩ | exact ⟨.inr rfl, _, pk [] rfl, by rw [sizeS_is v 4 (by omega)]; rfl, rfl⟩ | exact ⟨.inr rfl, _, pk [] rfl, by rw [sizeS_is v 8 (by omega)]; rfl, rfl⟩ | exact ⟨.inr rfl, _, pk [] rfl, by rw [sizeS_is v 0 (by omega)]; rfl, rfl⟩)
  · refine Body.skip ?_
    refine Then.next ?_
    refine Body.seq ?_
    refine Body.seq ?_
    refine Body.region ?_
    refine Ops.u (Dtu.mv (lk rfl)) rfl ?_
    refine Ops.u (Dtu.lss (lk rfl) (lk rfl)) rfl ?_
    refine Ops.nil ?_
    refine Then.next ?_
    refine Body.condP (lk rfl) (fun c6 => ?_) (fun c6 => ?_)
    · refine Body.seq ?_
      refine Body.region ?_
      refine Ops.u (Dtu.asg (lk rfl)) rfl ?_
      refine Ops.nil ?_
      refine Then.next ?_
      refine Body.ret ?_
      refine Then.ret ?_
      (first | exact ⟨.inr rfl, _, pk [] rfl, by rw [sizeS_is v 1 (by omega)]; rfl, rfl⟩ | exact ⟨.inr rfl, _, pk [] rfl, by rw [sizeS_is v 2 (by omega)]; rfl, rfl⟩ | exact ⟨.inr rfl, _, pk [] rfl, by rw [sizeS_is v 4 (by omega)]; rfl, rfl⟩ | exact ⟨.inr rfl, _, pk [] rfl, by rw [sizeS_is v 8 (by omega)]; rfl, rfl⟩ | exact ⟨.inr rfl, _, pk [] rfl, by rw [sizeS_is v 0 (by omega)]; rfl, rfl⟩)
    · refine Body.skip ?_
      refine Then.next ?_
      refine Body.seq ?_
      refine Body.seq ?_
      refine Body.region ?_
      refine Ops.u (Dtu.mv (lk rfl)) rfl ?_
      refine Ops.u (Dtu.lss (lk rfl) (lk rfl)) rfl ?_
      refine Ops.nil ?_
      refine Then.next ?_
      refine Body.condP (lk rfl) (fun c8 => ?_) (fun c8 => ?_)
      · refine Body.seq ?_
        refine Body.region ?_
        refine Ops.u (Dtu.asg (lk rfl)) rfl ?_
        refine Ops.nil ?_
        refine Then.next ?_
        refine Body.ret ?_
        refine Then.ret ?_
        (first | exact ⟨.inr rfl, _, pk [] rfl, by rw [sizeS_is v 1 (by omega)]; rfl, rfl⟩ | exact ⟨.inr rfl, _, pk [] rfl, by rw [sizeS_is v 2 (by omega)]; rfl, rfl⟩ | exact ⟨.inr rfl, _, pk [] rfl, by rw [sizeS_is v 4 (by omega)]; rfl, rfl⟩ | exact ⟨.inr rfl, _, pk [] rfl, by rw [sizeS_is v 8 (by omega)]; rfl, rfl⟩ | exact ⟨.inr rfl, _, pk [] rfl, by rw [sizeS_is v 0 (by omega)]; rfl, rfl⟩)
      · refine Body.skip ?_
        refine Then.next ?_
        refine Body.seq ?_
        refine Body.seq ?_
        refine Body.region ?_
        refine Ops.u (Dtu.mv (lk rfl)) rfl ?_
        refine Ops.u (Dtu.lss (lk rfl) (lk rfl)) rfl ?_
        refine Ops.nil ?_
        refine Then.next ?_
        refine Body.condP (lk rfl) (fun c10 => ?_) (fun c10 => ?_)
        · refine Body.seq ?_
          refine Body.region ?_
          refine Ops.u (Dtu.asg (lk rfl)) rfl ?_
          refine Ops.nil ?_
          refine Then.next ?_
          refine Body.ret ?_
          refine Then.ret ?_
          (first | exact ⟨.inr rfl, _, pk [] rfl, by rw [sizeS_is v 1 (by omega)]; rfl, rfl⟩ | exact ⟨.inr rfl, _, pk [] rfl, by rw [sizeS_is v 2 (by omega)]; rfl, rfl⟩ | exact ⟨.inr rfl, _, pk [] rfl, by rw [sizeS_is v 4 (by omega)]; rfl, rfl⟩ | exact ⟨.inr rfl, _, pk [] rfl, by rw [sizeS_is v 8 (by omega)]; rfl, rfl⟩ | exact ⟨.inr rfl, _, pk [] rfl, by rw [sizeS_is v 0 (by omega)]; rfl, rfl⟩)
        · refine Body.skip ?_
          refine Then.next ?_
          refine Body.seq ?_
          refine Body.region ?_
          refine Ops.u (Dtu.asg (lk rfl)) rfl ?_
          refine Ops.nil ?_
          refine Then.next ?_
          refine Body.ret ?_
          (first | exact ⟨.inr rfl, _, pk [] rfl, by rw [sizeS_is v 1 (by omega)]; rfl, rfl⟩ | exact ⟨.inr rfl, _, pk [] rfl, by rw [sizeS_is v 2 (by omega)]; rfl, rfl⟩ | exact ⟨.inr rfl, _, pk [] rfl, by rw [sizeS_is v 4 (by omega)]; rfl, rfl⟩ | exact ⟨.inr rfl, _, pk [] rfl, by rw [sizeS_is v 8 (by omega)]; rfl, rfl⟩ | exact ⟨.inr rfl, _, pk [] rfl, by rw [sizeS_is v 0 (by omega)]; rfl, rfl⟩)
theorem ris_ok (E : Env) (p : Int) : Does Try.prog 80 #[.int .i32 p] E [] fun r H' => r = .bool (isPt p) ∧ H' = [] := by
  refine Does.go (args := [.int .i32 p]) _ _ Try.func80 rfl Try.ntmps80 rfl rfl ?_
  refine Body.seq ?_
  refine Body.region ?_
  refine Ops.u (Dtu.asg (lk rfl)) rfl ?_
  refine Ops.nil ?_
  refine Then.next ?_
  refine Body.seq ?_
  refine Body.region ?_
  refine Ops.u (Dtu.mv (lk rfl)) rfl ?_
  refine Ops.u (Dtu.geq (lk rfl) (lk rfl)) rfl ?_
  refine Ops.u (Dtu.mv (lk rfl)) rfl ?_
  refine Ops.decP 5 rfl (fun c5 => ?_) (fun c5 => ?_)
  · refine Ops.gu rfl rfl rfl (Dtu.mv (lk rfl)) rfl ?_
    refine Ops.gu rfl rfl rfl (Dtu.lss (lk rfl) (lk rfl)) rfl ?_
    refine Ops.u (Dtu.pickT (lk rfl) (lk rfl)) rfl ?_
    refine Ops.u (Dtu.mv (lk rfl)) rfl ?_
    refine Ops.decP 9 rfl (fun c9 => ?_) (fun c9 => ?_)
    · refine Ops.gn rfl rfl rfl rfl rfl ?_
      refine Ops.gn rfl rfl rfl rfl rfl ?_
      refine Ops.gn rfl rfl rfl rfl rfl ?_
      refine Ops.gn rfl rfl rfl rfl rfl ?_
      refine Ops.gn rfl rfl rfl rfl rfl ?_
      refine Ops.gn rfl rfl rfl rfl rfl ?_
      refine Ops.u (Dtu.pickT (lk rfl) (lk rfl)) rfl ?_
      refine Ops.u (Dtu.asg (lk rfl)) rfl ?_
      refine Ops.nil ?_
      refine Then.next ?_
      refine Body.ret ?_
      (refine ⟨.inr rfl, _, pk [] rfl, bool_eq ?_, rfl⟩; simp [isPt]; omega)
    · refine Ops.gu rfl rfl rfl (Dtu.mv (lk rfl)) rfl ?_
      refine Ops.gu rfl rfl rfl (Dtu.gtr (lk rfl) (lk rfl)) rfl ?_
      refine Ops.gu rfl rfl rfl (Dtu.mv (lk rfl)) rfl ?_
      refine Ops.decP 12 rfl (fun c12 => ?_) (fun c12 => ?_)
      · refine Ops.gu rfl rfl rfl (Dtu.mv (lk rfl)) rfl ?_
        refine Ops.gu rfl rfl rfl (Dtu.lss (lk rfl) (lk rfl)) rfl ?_
        refine Ops.gu rfl rfl rfl (Dtu.pickT (lk rfl) (lk rfl)) rfl ?_
        refine Ops.u (Dtu.pickF (lk rfl) (lk rfl)) rfl ?_
        refine Ops.u (Dtu.asg (lk rfl)) rfl ?_
        refine Ops.nil ?_
        refine Then.next ?_
        refine Body.ret ?_
        (refine ⟨.inr rfl, _, pk [] rfl, bool_eq ?_, rfl⟩; simp [isPt]; omega)
      · refine Ops.gn rfl rfl rfl rfl rfl ?_
        refine Ops.gn rfl rfl rfl rfl rfl ?_
        refine Ops.gu rfl rfl rfl (Dtu.pickF (lk rfl) (lk rfl)) rfl ?_
        refine Ops.u (Dtu.pickF (lk rfl) (lk rfl)) rfl ?_
        refine Ops.u (Dtu.asg (lk rfl)) rfl ?_
        refine Ops.nil ?_
        refine Then.next ?_
        refine Body.ret ?_
        (refine ⟨.inr rfl, _, pk [] rfl, bool_eq ?_, rfl⟩; simp [isPt]; omega)
  · refine Ops.gn rfl rfl rfl rfl rfl ?_
    refine Ops.gn rfl rfl rfl rfl rfl ?_
    refine Ops.u (Dtu.pickF (lk rfl) (lk rfl)) rfl ?_
    refine Ops.u (Dtu.mv (lk rfl)) rfl ?_
    refine Ops.gu rfl rfl rfl (Dtu.mv (lk rfl)) rfl ?_
    refine Ops.gu rfl rfl rfl (Dtu.gtr (lk rfl) (lk rfl)) rfl ?_
    refine Ops.gu rfl rfl rfl (Dtu.mv (lk rfl)) rfl ?_
    refine Ops.decP 12 rfl (fun hy => absurd hy (by first | omega | assumption | decide)) (fun _ => ?_)
    refine Ops.gn rfl rfl rfl rfl rfl ?_
    refine Ops.gn rfl rfl rfl rfl rfl ?_
    refine Ops.gu rfl rfl rfl (Dtu.pickF (lk rfl) (lk rfl)) rfl ?_
    refine Ops.u (Dtu.pickF (lk rfl) (lk rfl)) rfl ?_
    refine Ops.u (Dtu.asg (lk rfl)) rfl ?_
    refine Ops.nil ?_
    refine Then.next ?_
    refine Body.ret ?_
    (refine ⟨.inr rfl, _, pk [] rfl, bool_eq ?_, rfl⟩; simp [isPt]; omega)
/-- the last k bytes of v -/
def tailB (v : Int) (k : Nat) : List Int := (List.range k).map fun j => v / 256 ^ (k - 1 - j) % 256
theorem tailB_succ (v : Int) (k : Nat) : tailB v (k + 1) = [v / 256 ^ k % 256] ++ tailB v k := by
  unfold tailB
  rw [List.range_succ_eq_map, List.map_cons, List.map_map]
  simp only [Nat.add_sub_cancel, Nat.sub_zero, List.cons_append, List.nil_append]
  congr 1
  refine List.map_congr_left fun j hj => ?_
  simp only [Function.comp]
  rw [show k - (j + 1) = k - 1 - j by omega]
theorem tailB_len (v : Int) (k : Nat) : (tailB v k).length = k := by simp [tailB]
end Go.Proofs.Ytijjjdljdjnbaaa
