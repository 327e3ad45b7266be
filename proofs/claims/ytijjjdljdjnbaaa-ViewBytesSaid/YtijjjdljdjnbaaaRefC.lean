/- The document's numbers out of bytes (longlineref01.Get). -/
import Derived.Test.YtijjjdljdjnbaaaRefB
namespace Go.Proofs.Ytijjjdljdjnbaaa
set_option maxRecDepth 100000
set_option linter.unusedVariables false
set_option linter.unusedSimpArgs false
open Go.Sx

theorem sizeS_many {v : Int} {k : Nat} (hk : k < 4) (h : v < 64 * 256 ^ (2 ^ k - 1)) : sizeS v ≤ 2 ^ k := by
  have hc : k = 0 ∨ k = 1 ∨ k = 2 ∨ k = 3 := by omega
  by_cases a : v < 64
  · rw [sizeS_is v 1 (by omega)]; exact Nat.one_le_two_pow
  · by_cases b : v < 16384
    · rw [sizeS_is v 2 (by omega)]; rcases hc with rfl | rfl | rfl | rfl <;> simp at h ⊢ <;> omega
    · by_cases c : v < 1073741824
      · rw [sizeS_is v 4 (by omega)]; rcases hc with rfl | rfl | rfl | rfl <;> simp at h ⊢ <;> omega
      · by_cases d : v < 4611686018427387904
        · rw [sizeS_is v 8 (by omega)]; rcases hc with rfl | rfl | rfl | rfl <;> simp at h ⊢ <;> omega
        · rw [sizeS_is v 0 (by omega)]; exact Nat.zero_le _
theorem rget_ok (E : Env) (b : Value) (bs : List Int) (p : Int) (h : Sl E [] 1 b bs.length (bs.map (.int .u8))) (hb : Byt bs) : Does Try.prog 66 #[b, .int .i64 p] E [] fun r H' =>
    r = .tuple #[.int .u64 (getS bs p).1, .int .i64 (getS bs p).2.1, .int .i64 (getS bs p).2.2] ∧ H' = [] := by
  refine Does.pure h.len fun hlen => ?_
  refine Does.go (args := [b, .int .i64 p]) _ _ Try.func66 rfl Try.ntmps66 rfl rfl ?_
  refine Body.seq ?_
  refine Body.region ?_
  refine Ops.u (Dtu.asg (lk rfl)) rfl ?_
  refine Ops.u (Dtu.asg (lk rfl)) rfl ?_
  refine Ops.u (Dtu.asg (lk rfl)) rfl ?_
  refine Ops.nil ?_
  refine Then.next ?_
  refine Body.seq ?_
  refine Body.seq ?_
  refine Body.region ?_
  refine Ops.u (Dtu.mv (lk rfl)) rfl ?_
  refine Ops.u (Dtu.lss (lk rfl) (lk rfl)) rfl ?_
  refine Ops.u (Dtu.mv (lk rfl)) rfl ?_
  refine Ops.decP 13 rfl (fun c13 => ?_) (fun c13 => ?_)
  · refine Ops.gn rfl rfl rfl rfl rfl ?_
    refine Ops.gn rfl rfl rfl rfl rfl ?_
    refine Ops.gn rfl rfl rfl rfl rfl ?_
    refine Ops.gn rfl rfl rfl rfl rfl ?_
    refine Ops.u (Dtu.pickT (lk rfl) (lk rfl)) rfl ?_
    refine Ops.nil ?_
    refine Then.next ?_
    refine Body.condT (lk rfl) ?_
    refine Body.seq ?_
    refine Body.region ?_
    refine Ops.u (Dtu.asg (lk rfl)) rfl ?_
    refine Ops.u (Dtu.asg (lk rfl)) rfl ?_
    refine Ops.u (Dtu.asg (lk rfl)) rfl ?_
    refine Ops.nil ?_
    refine Then.next ?_
    refine Body.ret ?_
    refine Then.ret ?_
    refine ⟨.inr rfl, _, pk [] rfl, ?_, rfl⟩
    unfold getS; rw [if_pos (by omega)]; rfl
  · refine Ops.gu rfl rfl rfl (Dtu.mv (lk rfl)) rfl ?_
    refine Ops.gu rfl rfl rfl (Dtu.mv (lk rfl)) rfl ?_
    refine Ops.gu rfl rfl rfl (Dtu.lenS Try.underlying32 (Sl.up h) (lk rfl)) rfl ?_
    refine Ops.gu rfl rfl rfl (Dtu.gtr (lk rfl) (lk rfl)) rfl ?_
    refine Ops.u (Dtu.pickF (lk rfl) (lk rfl)) rfl ?_
    refine Ops.nil ?_
    refine Then.next ?_
    refine Body.condP (lk rfl) (fun c18 => ?_) (fun c18 => ?_)
    · refine Body.seq ?_
      refine Body.region ?_
      refine Ops.u (Dtu.asg (lk rfl)) rfl ?_
      refine Ops.u (Dtu.asg (lk rfl)) rfl ?_
      refine Ops.u (Dtu.asg (lk rfl)) rfl ?_
      refine Ops.nil ?_
      refine Then.next ?_
      refine Body.ret ?_
      refine Then.ret ?_
      refine ⟨.inr rfl, _, pk [] rfl, ?_, rfl⟩
      unfold getS; rw [if_pos (by omega)]; rfl
    · refine Body.skip ?_
      refine Then.next ?_
      refine Body.seq ?_
      refine Body.seq ?_
      refine Body.region ?_
      refine Ops.u (Dtu.mv (lk rfl)) rfl ?_
      refine Ops.u (Dtu.mv (lk rfl)) rfl ?_
      refine Ops.u (Dtu.lenS Try.underlying32 (Sl.up h) (lk rfl)) rfl ?_
      refine Ops.u (Dtu.eql (lk rfl) (lk rfl)) rfl ?_
      refine Ops.nil ?_
      refine Then.next ?_
      refine Body.condP (lk rfl) (fun c22 => ?_) (fun c22 => ?_)
      · refine Body.seq ?_
        refine Body.region ?_
        refine Ops.u (Dtu.asg (lk rfl)) rfl ?_
        refine Ops.u (Dtu.asg (lk rfl)) rfl ?_
        refine Ops.u (Dtu.asg (lk rfl)) rfl ?_
        refine Ops.nil ?_
        refine Then.next ?_
        refine Body.ret ?_
        refine Then.ret ?_
        refine ⟨.inr rfl, _, pk [] rfl, ?_, rfl⟩
        unfold getS; rw [if_neg (by omega), if_pos (by omega)]; rfl
      · obtain ⟨q, rfl⟩ := Int.eq_ofNat_of_zero_le (show 0 ≤ p by omega)
        have hq : q < bs.length := by omega
        obtain ⟨g0, g1⟩ := hb q hq
        obtain ⟨c, hc⟩ : ∃ c : Nat, bs[q]! = (c : Int) := ⟨_, (Int.toNat_of_nonneg g0).symm⟩
        have hc2 : c < 256 := by omega
        have hc4 : c / 64 < 4 := by omega
        have em : manyS bs[q]! = 2 ^ (c / 64) := by unfold manyS; rw [hc]; congr 1
        have hm1 : 2 ^ (c / 64) ≤ 8 ∧ 1 ≤ 2 ^ (c / 64) := ⟨Nat.pow_le_pow_right (n := 2) (j := 3) (by omega) (by omega), Nat.one_le_two_pow⟩
        have e6 : IntKind.u8.wrap (bs[q]!.tdiv 64) = ((c / 64 : Nat) : Int) := by
          rw [hc, Int.tdiv_eq_ediv_of_nonneg (by omega), wrap_u8]; omega
        refine Body.skip ?_
        refine Then.next ?_
        refine Body.seq ?_
        refine Body.region ?_
        refine Ops.u (Dtu.asg (lk rfl)) rfl ?_
        refine Ops.nil ?_
        refine Then.next ?_
        refine Body.seq ?_
        refine Body.seq ?_
        refine Body.region ?_
        refine Ops.u (Dtu.asg (lk rfl)) rfl ?_
        refine Ops.nil ?_
        refine Then.next ?_
        refine Body.block ?_
        refine Body.loopF (γ := Nat) rfl (fun i => [(8, .int .u8 i), (7, .int .i64 ((2 ^ i : Nat) : Int))]) (fun _ => []) (fun i => i ≤ c / 64) (fun i => c / 64 - i) 0 (by omega) ⟨rfl, rfl, trivial⟩ rfl ?_
        rintro i u hi
        have e7 : IntKind.i64.wrap (2 * ((2 ^ i : Nat) : Int)) = ((2 ^ (i + 1) : Nat) : Int) := by
          have : 2 ^ i ≤ 8 := Nat.pow_le_pow_right (n := 2) (j := 3) (by omega) (by omega)
          generalize hw : 2 ^ i = w at this ⊢
          rw [w64 (by omega) (by omega), Nat.pow_succ, hw]; omega
        refine Body.seq ?_
        refine Body.seq ?_
        refine Body.region ?_
        refine Ops.u (Dtu.mv (lk rfl)) rfl ?_
        refine Ops.u (Dtu.mv (lk rfl)) rfl ?_
        refine Ops.u (Dtu.mv (lk rfl)) rfl ?_
        refine Ops.u (Dtu.ix (i := (q)) Try.underlying32 Try.sizeOf5 (Sl.up h) (lk rfl) (lk rfl) (by omega) (by omega)) rfl ?_
        refine Ops.d (Det.ld Try.isAgg5 (lk rfl) (Rd.sl (Sl.up h) (gm (by omega)))) rfl ?_
        refine Ops.u (Dtu.quo (lk rfl) (lk rfl) (by first | decide | omega) (by with_reducible assumption)) rfl ?_
        refine Ops.u (Dtu.lss (lk rfl) (lk rfl)) rfl ?_
        refine Ops.nil ?_
        refine Then.next ?_
        refine Body.condP (lk rfl) (fun c29 => ?_) (fun c29 => ?_)
        · refine Body.skip ?_
          refine Then.next ?_
          refine Body.seq ?_
          refine Body.block ?_
          refine Body.region ?_
          refine Ops.u (Dtu.mv (lk rfl)) rfl ?_
          refine Ops.u (Dtu.mul (lk rfl) (lk rfl) (by with_reducible assumption)) rfl ?_
          refine Ops.u (Dtu.asg (lk rfl)) rfl ?_
          refine Ops.nil ?_
          refine Blk.norm ?_
          refine Then.next ?_
          refine Body.region ?_
          refine Ops.u (Dtu.mv (lk rfl)) rfl ?_
          refine Ops.u (Dtu.add (lk rfl) (lk rfl) (wu8 (by omega) (by omega))) rfl ?_
          refine Ops.u (Dtu.asg (lk rfl)) rfl ?_
          refine Ops.nil ?_
          exact Round.goF (i + 1) rfl rfl rfl ⟨int_eq (by omega), int_eq rfl, trivial⟩ rfl (by omega) (by omega)
        · obtain rfl : i = c / 64 := by omega
          generalize hN : 2 ^ (c / 64) = N at *
          refine Body.exit ?_
          refine Then.exit ?_
          refine Round.exit ?_
          refine Blk.here ?_
          refine Then.next ?_
          refine Body.seq ?_
          refine Body.seq ?_
          refine Body.region ?_
          refine Ops.u (Dtu.mv (lk rfl)) rfl ?_
          refine Ops.u (Dtu.mv (lk rfl)) rfl ?_
          refine Ops.u (Dtu.lenS Try.underlying32 (Sl.up h) (lk rfl)) rfl ?_
          refine Ops.u (Dtu.mv (lk rfl)) rfl ?_
          refine Ops.u (Dtu.sub (lk rfl) (lk rfl) (w64 (by omega) (by omega))) rfl ?_
          refine Ops.u (Dtu.gtr (lk rfl) (lk rfl)) rfl ?_
          refine Ops.nil ?_
          refine Then.next ?_
          refine Body.condP (lk rfl) (fun c39 => ?_) (fun c39 => ?_)
          · refine Body.seq ?_
            refine Body.region ?_
            refine Ops.u (Dtu.asg (lk rfl)) rfl ?_
            refine Ops.u (Dtu.asg (lk rfl)) rfl ?_
            refine Ops.u (Dtu.asg (lk rfl)) rfl ?_
            refine Ops.nil ?_
            refine Then.next ?_
            refine Body.ret ?_
            refine Then.ret ?_
            refine ⟨.inr rfl, _, pk [] rfl, ?_, rfl⟩
            unfold getS; rw [if_neg (by omega), if_neg (by omega), if_pos (by simp only [Int.toNat_natCast]; omega)]; rfl
          · have hyl : ((bs.drop (q + 1)).take (N - 1)).length = N - 1 := by simp; omega
            have hyb : ∀ i, i < N - 1 → ((bs.drop (q + 1)).take (N - 1))[i]! = bs[q + (i + 1)]! := fun i hi => by
              rw [getElem!_pos _ _ (by omega), getElem!_pos _ _ (by omega)]
              simp only [List.getElem_take, List.getElem_drop]
              congr 1; omega
            have hget : getS bs (q : Int) = (let v := foldB ((c : Int) % 64) ((bs.drop (q + 1)).take (N - 1)); if sizeS v ≠ N then (0, 0, 3) else (v, (q : Int) + N, 0)) := by
              unfold getS
              rw [if_neg (by omega), if_neg (by omega), if_neg (by simp only [Int.toNat_natCast]; omega)]
              have em' := em
              rw [hc] at em'
              simp only [Int.toNat_natCast, hc, em']
            generalize hys : (bs.drop (q + 1)).take (N - 1) = ys at *
            have e9 : IntKind.u64.wrap (bs[q]!.tmod 64) = (c : Int) % 64 := by
              rw [hc, Int.tmod_eq_emod_of_nonneg (by omega), wu64 (by omega) (by omega)]
            refine Body.skip ?_
            refine Then.next ?_
            refine Body.seq ?_
            refine Body.region ?_
            refine Ops.u (Dtu.mv (lk rfl)) rfl ?_
            refine Ops.u (Dtu.mv (lk rfl)) rfl ?_
            refine Ops.u (Dtu.ix (i := (q)) Try.underlying32 Try.sizeOf5 (Sl.up h) (lk rfl) (lk rfl) (by omega) (by omega)) rfl ?_
            refine Ops.d (Det.ld Try.isAgg5 (lk rfl) (Rd.sl (Sl.up h) (gm (by omega)))) rfl ?_
            refine Ops.u (Dtu.rem (lk rfl) (lk rfl) (by first | decide | omega) rfl) rfl ?_
            refine Ops.u (Dtu.cvt Try.underlying5 Try.underlying75 (lk rfl) (by with_reducible assumption)) rfl ?_
            refine Ops.u (Dtu.asg (lk rfl)) rfl ?_
            refine Ops.nil ?_
            refine Then.next ?_
            refine Body.seq ?_
            refine Body.seq ?_
            refine Body.region ?_
            refine Ops.u (Dtu.asg (lk rfl)) rfl ?_
            refine Ops.nil ?_
            refine Then.next ?_
            refine Body.block ?_
            refine Body.loopF (γ := Nat) rfl (fun i => [(10, .int .i64 ((i : Int) + 1)), (9, .int .u64 (foldB ((c : Int) % 64) (ys.take i)))]) (fun _ => []) (fun i => i ≤ N - 1 ∧ 0 ≤ foldB ((c : Int) % 64) (ys.take i) ∧ foldB ((c : Int) % 64) (ys.take i) < 64 * 256 ^ i) (fun i => N - 1 - i) 0
              ⟨by omega, by simp [foldB]; omega, by simp [foldB]; omega⟩ ⟨rfl, int_eq (by simp [foldB]), trivial⟩ rfl ?_
            rintro i u ⟨hi, hf0, hf1⟩
            refine Body.seq ?_
            refine Body.seq ?_
            refine Body.region ?_
            refine Ops.u (Dtu.mv (lk rfl)) rfl ?_
            refine Ops.u (Dtu.mv (lk rfl)) rfl ?_
            refine Ops.u (Dtu.lss (lk rfl) (lk rfl)) rfl ?_
            refine Ops.nil ?_
            refine Then.next ?_
            refine Body.condP (lk rfl) (fun c48 => ?_) (fun c48 => ?_)
            · have hi6 := pow256 (i := i) (by omega)
              have y0 := hyb i (by omega)
              have yb := hb (q + (i + 1)) (by omega)
              rw [← y0] at yb
              have e4 : IntKind.u64.wrap (256 * foldB ((c : Int) % 64) (ys.take i)) = 256 * foldB ((c : Int) % 64) (ys.take i) := wu64 (by omega) (by omega)
              refine Body.skip ?_
              refine Then.next ?_
              refine Body.seq ?_
              refine Body.block ?_
              refine Body.region ?_
              refine Ops.u (Dtu.mv (lk rfl)) rfl ?_
              refine Ops.u (Dtu.mul (lk rfl) (lk rfl) (by with_reducible assumption)) rfl ?_
              refine Ops.u (Dtu.mv (lk rfl)) rfl ?_
              refine Ops.u (Dtu.mv (lk rfl)) rfl ?_
              refine Ops.u (Dtu.mv (lk rfl)) rfl ?_
              refine Ops.u (Dtu.add (lk rfl) (lk rfl) (w64 (by omega) (by omega))) rfl ?_
              refine Ops.u (Dtu.ix (i := (q + (i + 1))) Try.underlying32 Try.sizeOf5 (Sl.up h) (lk rfl) (lk rfl) (by omega) (by omega)) rfl ?_
              refine Ops.d (Det.ld Try.isAgg5 (lk rfl) (Rd.sl (Sl.up h) (gm (by omega)))) rfl ?_
              refine Ops.u (Dtu.cvt Try.underlying5 Try.underlying75 (lk rfl) (wu64 (by omega) (by omega))) rfl ?_
              refine Ops.u (Dtu.add (lk rfl) (lk rfl) (wu64 (by omega) (by omega))) rfl ?_
              refine Ops.u (Dtu.asg (lk rfl)) rfl ?_
              refine Ops.nil ?_
              refine Blk.norm ?_
              refine Then.next ?_
              refine Body.region ?_
              refine Ops.u (Dtu.mv (lk rfl)) rfl ?_
              refine Ops.u (Dtu.add (lk rfl) (lk rfl) (w64 (by omega) (by omega))) rfl ?_
              refine Ops.u (Dtu.asg (lk rfl)) rfl ?_
              refine Ops.nil ?_
              have hsn : foldB ((c : Int) % 64) (ys.take (i + 1)) = foldB ((c : Int) % 64) (ys.take i) * 256 + ys[i]! := by rw [take_snoc (by omega), foldB_snoc]
              refine Round.goF (i + 1) rfl rfl rfl ⟨int_eq (by omega), ?_, trivial⟩ rfl ⟨by omega, by omega, ?_⟩ (by omega)
              · rw [hsn]; refine int_eq ?_; rw [y0]; omega
              · rw [hsn, Int.pow_succ]; omega
            · obtain rfl : i = N - 1 := by omega
              have ht : ys.take (N - 1) = ys := List.take_of_length_le (by omega)
              rw [ht] at hf0 hf1
              simp only [ht]
              have hmn := sizeS_many hc4 (by rw [hN]; exact hf1)
              refine Body.exit ?_
              refine Then.exit ?_
              refine Round.exit ?_
              refine Blk.here ?_
              refine Then.next ?_
              refine Body.seq ?_
              refine Body.seq ?_
              refine Body.region ?_
              refine Ops.u (Dtu.mv (lk rfl)) rfl ?_
              refine Ops.s (Stp.call rfl Try.call105 (lks rfl) (fun E' le hat => rsize_ok E' _) ?_) rfl
              rintro _ _ ⟨rfl, rfl⟩
              refine Ops.u (Dtu.mv (lk rfl)) rfl ?_
              refine Ops.u (Dtu.lss (lk rfl) (lk rfl)) rfl ?_
              refine Ops.nil ?_
              refine Then.next ?_
              refine Body.condP (lk rfl) (fun c64 => ?_) (fun c64 => ?_)
              · refine Body.seq ?_
                refine Body.region ?_
                refine Ops.u (Dtu.asg (lk rfl)) rfl ?_
                refine Ops.u (Dtu.asg (lk rfl)) rfl ?_
                refine Ops.u (Dtu.asg (lk rfl)) rfl ?_
                refine Ops.nil ?_
                refine Then.next ?_
                refine Body.ret ?_
                refine Then.ret ?_
                refine ⟨.inr rfl, _, pk [] rfl, ?_, rfl⟩
                rw [hget]; dsimp only; rw [if_pos (by omega)]; rfl
              · refine Body.skip ?_
                refine Then.next ?_
                refine Body.seq ?_
                refine Body.region ?_
                refine Ops.u (Dtu.mv (lk rfl)) rfl ?_
                refine Ops.u (Dtu.mv (lk rfl)) rfl ?_
                refine Ops.u (Dtu.mv (lk rfl)) rfl ?_
                refine Ops.u (Dtu.add (lk rfl) (lk rfl) (w64 (by omega) (by omega))) rfl ?_
                refine Ops.u (Dtu.asg (lk rfl)) rfl ?_
                refine Ops.u (Dtu.asg (lk rfl)) rfl ?_
                refine Ops.u (Dtu.asg (lk rfl)) rfl ?_
                refine Ops.nil ?_
                refine Then.next ?_
                refine Body.ret ?_
                refine ⟨.inr rfl, _, pk [] rfl, ?_, rfl⟩
                rw [hget]; dsimp only; rw [if_neg (by omega)]; rfl
end Go.Proofs.Ytijjjdljdjnbaaa
