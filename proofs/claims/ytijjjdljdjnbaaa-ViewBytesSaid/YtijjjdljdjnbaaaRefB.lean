/- The document's numbers in bytes (longlineref01.Put). -/
import Derived.Test.YtijjjdljdjnbaaaRefA
namespace Go.Proofs.Ytijjjdljdjnbaaa
set_option maxRecDepth 100000
set_option linter.unusedVariables false
set_option linter.unusedSimpArgs false
open Go.Sx

theorem rput_ok (E : Env) (v : Int) (h0 : 0 ≤ v) (h1 : v < 18446744073709551616) : Does Try.prog 63 #[.int .u64 v] E [] fun r H' => ∃ s, r = s ∧ H' = [osl 5 1 s (sizeS v) ((putL v).map (.int .u8))] := by
  have hz := sizeS_le v
  refine Does.go (args := [.int .u64 v]) _ _ Try.func63 rfl Try.ntmps63 rfl rfl ?_
  refine Body.seq ?_
  refine Body.region ?_
  refine Ops.u (Dtu.asg (lk rfl)) rfl ?_
  refine Ops.nil ?_
  refine Then.next ?_
  refine Body.seq ?_
  refine Body.region ?_
  refine Ops.u (Dtu.asg (lk rfl)) rfl ?_
  refine Ops.nil ?_
  refine Then.next ?_
  refine Body.seq ?_
  refine Body.region ?_
  refine Ops.u (Dtu.mv (lk rfl)) rfl ?_
  refine Ops.u (Dtu.asg (lk rfl)) rfl ?_
  refine Ops.nil ?_
  refine Then.next ?_
  refine Body.seqJ (γ := Value) rfl (fun g => [(3, g)]) (fun g => [osl 5 1 g (sizeS v) ((tailB v (sizeS v)).map (.int .u8))]) (fun _ => True) ?_ ?_
  · refine Body.conseq (H' := [osl 5 1 (.slice none 0 0) 0 []]) (fun w s => osl_nil s) ?_
    refine Body.seq ?_
    refine Body.region ?_
    refine Ops.u (Dtu.asg (lk rfl)) rfl ?_
    refine Ops.nil ?_
    refine Then.next ?_
    refine Body.block ?_
    refine Body.loopF (γ := Nat × Value) rfl (fun g => [(5, .int .i64 g.1), (4, .int .u64 (v / 256 ^ g.1)), (3, g.2)]) (fun g => [osl 5 1 g.2 g.1 ((tailB v g.1).map (.int .u8))]) (fun g => g.1 ≤ sizeS v) (fun g => sizeS v - g.1) (0, .slice none 0 0) (by simp) ⟨rfl, int_eq (by simp), rfl, trivial⟩ rfl ?_
    rintro ⟨k, o⟩ u hk
    dsimp only at hk ⊢
    have hq : 0 ≤ v / 256 ^ k := Int.ediv_nonneg h0 (Int.pow_nonneg (by omega))
    have hq2 : v / 256 ^ k ≤ v := Int.ediv_le_self _ h0
    refine Body.seq ?_
    refine Body.seq ?_
    refine Body.region ?_
    refine Ops.u (Dtu.mv (lk rfl)) rfl ?_
    refine Ops.u (Dtu.mv (lk rfl)) rfl ?_
    refine Ops.s (Stp.call rfl Try.call105 (lks rfl) (fun E' le hat => rsize_ok E' _) ?_) rfl
    rintro _ _ ⟨rfl, rfl⟩
    refine Ops.u (Dtu.lss (lk rfl) (lk rfl)) rfl ?_
    refine Ops.nil ?_
    refine Then.next ?_
    refine Body.condP (lk rfl) (fun c12 => ?_) (fun c12 => ?_)
    · refine Body.skip ?_
      refine Then.next ?_
      refine Body.seq ?_
      refine Body.block ?_
      refine Body.seq ?_
      refine Body.region ?_
      refine Ops.u (Dtu.mv (lk rfl)) rfl ?_
      refine Ops.u (Dtu.rem (lk rfl) (lk rfl) (by first | decide | omega) rfl) rfl ?_
      refine Ops.u (Dtu.cvt Try.underlying75 Try.underlying5 (lk rfl) rfl) rfl ?_
      refine Ops.s (Stp.buildSliceO Try.underlying32 ty5 (by decide) (by decide) (lkp rfl) rfl rfl rfl (by decide) (fun v18 => ?_)) rfl
      refine Ops.u (Dtu.mv (lk rfl)) rfl ?_
      refine Ops.s (Stp.append 0 Try.underlying32 ty5 rfl rfl (lk rfl) (lk rfl) (Sl.osl 1 rfl) (by first | rfl | exact all_map (fun _ => rfl) _ | exact all_flat (fun _ => rfl) _) (by omega) (by omega) (fun v20 => ?_)) rfl
      refine Ops.u (Dtu.asg (lk rfl)) rfl ?_
      refine Ops.nil ?_
      refine Then.next ?_
      refine Body.region ?_
      refine Ops.u (Dtu.mv (lk rfl)) rfl ?_
      refine Ops.u (Dtu.quo (lk rfl) (lk rfl) (by first | decide | omega) rfl) rfl ?_
      refine Ops.u (Dtu.asg (lk rfl)) rfl ?_
      refine Ops.nil ?_
      refine Blk.norm ?_
      refine Then.next ?_
      refine Body.region ?_
      refine Ops.u (Dtu.mv (lk rfl)) rfl ?_
      refine Ops.u (Dtu.add (lk rfl) (lk rfl) (w64 (by omega) (by omega))) rfl ?_
      refine Ops.u (Dtu.asg (lk rfl)) rfl ?_
      refine Ops.nil ?_
      refine Round.goK [0] (k + 1, v20) rfl rfl rfl ⟨int_eq (by simp), int_eq ?_, rfl, trivial⟩ rfl ?_ (by dsimp only; omega) (by dsimp only; omega)
      · dsimp only
        rw [Int.pow_succ, ← Int.ediv_ediv_of_nonneg (Int.pow_nonneg (by omega)), Int.tdiv_eq_ediv_of_nonneg hq]
        exact wu64 (by omega) (by omega)
      · dsimp only
        rw [tailB_succ, Nat.add_comm 1 k, Int.tmod_eq_emod_of_nonneg hq, wrap_u8, Int.emod_emod_of_dvd _ (by decide)]
        rfl
    · obtain rfl : k = sizeS v := by omega
      refine Body.exit ?_
      refine Then.exit ?_
      refine Round.exit ?_
      refine Blk.here ?_
      exact Joint.goK [0] o rfl rfl rfl ⟨rfl, trivial⟩ rfl rfl trivial
  · intro o u _
    refine Body.seq ?_
    refine Body.region ?_
    refine Ops.u (Dtu.asg (lk rfl)) rfl ?_
    refine Ops.nil ?_
    refine Then.next ?_
    refine Body.seq ?_
    refine Body.seq ?_
    refine Body.region ?_
    refine Ops.u (Dtu.mv (lk rfl)) rfl ?_
    refine Ops.s (Stp.call rfl Try.call105 (lks rfl) (fun E' le hat => rsize_ok E' _) ?_) rfl
    rintro _ _ ⟨rfl, rfl⟩
    refine Ops.u (Dtu.asg (lk rfl)) rfl ?_
    refine Ops.nil ?_
    refine Then.next ?_
    refine Body.block ?_
    refine Body.loopF (γ := Nat) rfl (fun i => [(7, .int .i64 ((sizeS v / 2 ^ i : Nat) : Int)), (6, .int .u8 (64 * (i : Int)))]) (fun _ => [osl 5 1 o (sizeS v) ((tailB v (sizeS v)).map (.int .u8))]) (fun i => i ≤ 3 ∧ ∀ j, j < i → 1 < sizeS v / 2 ^ j) (fun i => 3 - i) 0 ⟨by omega, fun j hj => by omega⟩ ⟨int_eq (by simp), int_eq (by simp), trivial⟩ rfl ?_
    rintro i u2 ⟨hi, hj⟩
    refine Body.seq ?_
    refine Body.seq ?_
    refine Body.region ?_
    refine Ops.u (Dtu.mv (lk rfl)) rfl ?_
    refine Ops.u (Dtu.gtr (lk rfl) (lk rfl)) rfl ?_
    refine Ops.nil ?_
    refine Then.next ?_
    refine Body.condP (lk rfl) (fun c26 => ?_) (fun c26 => ?_)
    · have hi2 : i ≤ 2 := by
        by_cases e : i = 3
        · subst e; omega
        · omega
      have hq3 : IntKind.i64.wrap (((sizeS v / 2 ^ i : Nat) : Int).tdiv 2) = ((sizeS v / 2 ^ i / 2 : Nat) : Int) := by
        have hd := Nat.div_le_self (sizeS v) (2 ^ i)
        generalize sizeS v / 2 ^ i = q at hd ⊢
        rw [Int.tdiv_eq_ediv_of_nonneg (by omega), w64 (by omega) (by omega)]; omega
      refine Body.skip ?_
      refine Then.next ?_
      refine Body.seq ?_
      refine Body.block ?_
      refine Body.region ?_
      refine Ops.u (Dtu.mv (lk rfl)) rfl ?_
      refine Ops.u (Dtu.add (lk rfl) (lk rfl) (wu8 (by omega) (by omega))) rfl ?_
      refine Ops.u (Dtu.asg (lk rfl)) rfl ?_
      refine Ops.nil ?_
      refine Blk.norm ?_
      refine Then.next ?_
      refine Body.region ?_
      refine Ops.u (Dtu.mv (lk rfl)) rfl ?_
      refine Ops.u (Dtu.quo (lk rfl) (lk rfl) (by first | decide | omega) (by with_reducible assumption)) rfl ?_
      refine Ops.u (Dtu.asg (lk rfl)) rfl ?_
      refine Ops.nil ?_
      refine Round.goK [0] (i + 1) rfl rfl rfl ⟨int_eq ?_, int_eq (by omega), trivial⟩ rfl rfl ⟨by omega, fun j hj2 => ?_⟩ (by omega)
      · rw [Nat.pow_succ, ← Nat.div_div_eq_div_mul]
      · by_cases e : j = i
        · subst e; omega
        · exact hj j (by omega)
    · have hcl : sizeS v ≠ 0 → i = classS v := fun h => by
        obtain ⟨h4, hs⟩ := class_of_size h
        rw [hs] at c26 hj
        generalize classS v = c at *
        have hci : ¬ i < c := fun h => by
          have : 2 ≤ 2 ^ c / 2 ^ i := by
            rw [Nat.pow_div (by omega) (by omega)]
            exact Nat.le_self_pow (by omega) 2
          omega
        have hic : ¬ c < i := fun h => by
          have := hj c h
          rw [Nat.div_self (Nat.two_pow_pos c)] at this
          omega
        omega
      have tl := tailB_len v (sizeS v)
      refine Body.exit ?_
      refine Then.exit ?_
      refine Round.exit ?_
      refine Blk.here ?_
      refine Then.next ?_
      refine Body.seq ?_
      refine Body.seq ?_
      refine Body.region ?_
      refine Ops.u (Dtu.mv (lk rfl)) rfl ?_
      refine Ops.u (Dtu.lenS Try.underlying32 (Sl.osl 0 rfl) (lk rfl)) rfl ?_
      refine Ops.u (Dtu.gtr (lk rfl) (lk rfl)) rfl ?_
      refine Ops.nil ?_
      refine Then.next ?_
      refine Body.condP (lk rfl) (fun c33 => ?_) (fun c33 => ?_)
      · have hzz : sizeS v ≠ 0 := by omega
        obtain ⟨hb0, hb1⟩ := byte0_lt v h0 hzz
        have ht0 : (tailB v (sizeS v))[0]! = byteAt v (sizeS v) 0 := by
          rw [getElem!_pos _ 0 (by omega)]; simp [tailB, byteAt]
        refine Body.region ?_
        refine Ops.u (Dtu.mv (lk rfl)) rfl ?_
        refine Ops.u (Dtu.mv (lk rfl)) rfl ?_
        refine Ops.u (Dtu.ix (i := 0) Try.underlying32 Try.sizeOf5 (Sl.osl 0 rfl) (lk rfl) (lk rfl) (by omega) (by omega)) rfl ?_
        refine Ops.d (Det.ld Try.isAgg5 (lk rfl) (Rd.sl (Sl.osl 0 rfl) (gm (by omega)))) rfl ?_
        refine Ops.u (Dtu.mv (lk rfl)) rfl ?_
        refine Ops.u (Dtu.add (lk rfl) (lk rfl) (wu8 (by omega) (by omega))) rfl ?_
        refine Ops.u (Dtu.ix (i := 0) Try.underlying32 Try.sizeOf5 (Sl.osl 0 rfl) (lk rfl) (lk rfl) (by omega) (by omega)) rfl ?_
        refine Ops.e (Stp.storeM 0 Try.sizeOf5 rfl (lk rfl) (lk rfl) (fun _ => rfl) rfl (by omega) rfl ?_)
        refine Ops.nil ?_
        refine Then.next ?_
        refine Body.seq ?_
        refine Body.region ?_
        refine Ops.u (Dtu.mv (lk rfl)) rfl ?_
        refine Ops.u (Dtu.asg (lk rfl)) rfl ?_
        refine Ops.nil ?_
        refine Then.next ?_
        refine Body.ret ?_
        refine ⟨.inr rfl, _, pk [0] rfl, o, rfl, ?_⟩
        have e0 : (tailB v (sizeS v)).set 0 ((tailB v (sizeS v))[0]! + 64 * (i : Int)) = putL v := by
          rw [ht0, hcl hzz]
          refine List.ext_getElem (by simp [tl, putL_len]) fun j hj1 hj2 => ?_
          rw [List.getElem_set]
          simp only [putL, tailB, List.getElem_map, List.getElem_range, byteAt]
          split
          · next h => subst h; rfl
          · next h => rw [if_neg (by omega)]; omega
        exact congrArg (fun l => [osl 5 1 o (sizeS v) (l.map (.int .u8))]) e0
      · refine Body.skip ?_
        refine Then.next ?_
        refine Body.seq ?_
        refine Body.region ?_
        refine Ops.u (Dtu.mv (lk rfl)) rfl ?_
        refine Ops.u (Dtu.asg (lk rfl)) rfl ?_
        refine Ops.nil ?_
        refine Then.next ?_
        refine Body.ret ?_
        have hp : putL v = [] := List.length_eq_zero_iff.1 (by rw [putL_len]; omega)
        have ht : tailB v (sizeS v) = [] := List.length_eq_zero_iff.1 (by omega)
        exact ⟨.inr rfl, _, pk [0] rfl, o, rfl, by rw [hp, ht]⟩
end Go.Proofs.Ytijjjdljdjnbaaa
