/- Patches: Apply, what it computes. -/
import Derived.Test.YtijjjdljdjnbaaaPatF
namespace Go.Proofs.Ytijjjdljdjnbaaa
set_option maxRecDepth 100000
set_option linter.unusedVariables false
set_option linter.unusedSimpArgs false
open Go.Sx

set_option maxHeartbeats 3200000 in
theorem apply_ok (E : Env) (a : View) (s b : Value) (bs : List Int) (ha : a.has E [] s) (h : Sl E [] 1 b bs.length (bs.map (.int .u8))) (hb : Byt bs) (hmax : bs.length ≤ 100000) (hfl : ∀ c ∈ a.cells, c.Fl) : Does Try.prog 20 #[a.val s, b] E [] fun r H' =>
    match applyV a bs with
    | some v => ∃ s, r = .tuple #[v.val s, .int .i64 0] ∧ H' = [osl 55 4 s v.cells.length (v.cells.flatMap Cell.enc)]
    | none => r = .tuple #[View.none.val (.slice none 0 0), .int .i64 3] ∧ H' = [] := by
  have hR := fun (E' : Env) (le : Env.Le E E') => runs_ok E' b bs (Sl.mono h le) hb hmax
  unfold View.has at ha
  refine Does.pure ha.isSl fun hs => ?_
  obtain ⟨sa, sm, sc, rfl⟩ := hs
  refine Does.go (args := [a.val (.slice sa sm sc), b]) _ _ Try.func20 rfl Try.ntmps20 rfl rfl ?_
  have hV : applyV a bs = match runsP bs with
      | none => none
      | some rs => if a.ok = false ∨ 12 < bs[0]! ∨ 40 < bs[1]! then none else if (applyW a bs rs).ok = true ∧ difB a (applyW a bs rs) = bs then some (applyW a bs rs) else none := rfl
  cases hr : runsP bs with
  | none =>
    rw [hr] at hR hV
    rw [hV]
    refine Body.seq ?_
    refine Body.region ?_
    refine Ops.s (Stp.box (lk rfl) rfl (fun b2 => ?_)) rfl
    refine Ops.s (Stp.alloc ty24 (fun b4 => ?_)) rfl
    refine Ops.u (Dtu.asg (lk rfl)) rfl ?_
    refine Ops.nil ?_
    refine Then.next ?_
    refine Body.scope ?_
    refine Body.seq ?_
    refine Body.region ?_
    refine Ops.u (Dtu.mv (lk rfl)) rfl ?_
    refine Ops.s (Stp.call rfl Try.call64 (lks rfl) (fun E' le hat => hR E' le) ?_) rfl
    rintro _ _ ⟨rfl, rfl⟩
    refine Ops.u (Dtu.mv (lk rfl)) rfl ?_
    refine Ops.u (Dtu.ext (lk rfl) rfl) rfl ?_
    refine Ops.u (Dtu.ext (lk rfl) rfl) rfl ?_
    refine Ops.u (Dtu.asg (lk rfl)) rfl ?_
    refine Ops.u (Dtu.asg (lk rfl)) rfl ?_
    refine Ops.nil ?_
    refine Then.next ?_
    refine Body.seq ?_
    refine Body.seq ?_
    refine Body.region ?_
    refine Ops.u (Dtu.mv (lk rfl)) rfl ?_
    refine Ops.u (Dtu.not (lk rfl)) rfl ?_
    refine Ops.u (Dtu.mv (lk rfl)) rfl ?_
    refine Ops.gn rfl rfl rfl rfl rfl ?_
    refine Ops.gn rfl rfl rfl rfl rfl ?_
    refine Ops.gn rfl rfl rfl rfl rfl ?_
    refine Ops.u (Dtu.pickT (lk rfl) (lk rfl)) rfl ?_
    refine Ops.nil ?_
    refine Then.next ?_
    refine Body.condT (lk rfl) ?_
    refine Body.seq ?_
    refine Body.region ?_
    refine Ops.u (Dtu.build ty24 pl24 (lkp rfl) rfl rfl) rfl ?_
    refine Ops.e (Stp.store 0 Try.sizeOf24 (lk rfl) (lk rfl) rfl rfl rfl rfl rfl rfl rfl ?_)
    refine Ops.u (Dtu.asg (lk rfl)) rfl ?_
    refine Ops.nil ?_
    refine Then.next ?_
    refine Body.ret ?_
    refine Then.ret ?_
    exact ⟨.inr rfl, _, Loads.agg Try.isAgg24 Try.sizeOf24 (Rds.ow (m := 6) 0 rfl rfl) rfl, _, pk [] rfl, rfl, rfl⟩
  | some rs =>
    have h5 := runsP_len hr
    have hfine := runsP_fine hb hr
    rw [hr] at hR hV
    dsimp only at hV
    refine Body.seq ?_
    refine Body.region ?_
    refine Ops.s (Stp.box (lk rfl) rfl (fun b2 => ?_)) rfl
    refine Ops.s (Stp.alloc ty24 (fun b4 => ?_)) rfl
    refine Ops.u (Dtu.asg (lk rfl)) rfl ?_
    refine Ops.nil ?_
    refine Then.next ?_
    refine Body.scope ?_
    refine Body.seq ?_
    refine Body.region ?_
    refine Ops.u (Dtu.mv (lk rfl)) rfl ?_
    refine Ops.s (Stp.call rfl Try.call64 (lks rfl) (fun E' le hat => hR E' le) ?_) rfl
    rintro _ _ ⟨l1, l2, l3, L, rfl, rfl, hL⟩
    have d0 := hb 0 (by omega)
    have d1 := hb 1 (by omega)
    have d2 := hb 2 (by omega)
    have d3 := hb 3 (by omega)
    have d4 := hb 4 (by omega)
    cases hk : a.ok with
    | false =>
      rw [hV, if_pos (.inl hk)]
      refine Ops.u (Dtu.mv (lk rfl)) rfl ?_
      refine Ops.u (Dtu.ext (lk rfl) rfl) rfl ?_
      refine Ops.u (Dtu.ext (lk rfl) rfl) rfl ?_
      refine Ops.u (Dtu.asg (lk rfl)) rfl ?_
      refine Ops.u (Dtu.asg (lk rfl)) rfl ?_
      refine Ops.nil ?_
      refine Then.next ?_
      refine Body.seq ?_
      refine Body.seq ?_
      refine Body.region ?_
      refine Ops.u (Dtu.mv (lk rfl)) rfl ?_
      refine Ops.u (Dtu.not (lk rfl)) rfl ?_
      refine Ops.u (Dtu.mv (lk rfl)) rfl ?_
      refine Ops.gd rfl rfl rfl (Det.lda Try.isAgg24 Try.sizeOf24 (lk rfl) (Rds.ow (m := 6) 3 rfl rfl) rfl) rfl ?_
      refine Ops.gs rfl rfl rfl (Stp.call rfl Try.call25 (lks rfl) (fun E' le hat => right_ok E' ⟨_, _, _, _, _, _⟩ _ (Sl.mono (by assumption) le)) ?_) rfl
      rintro _ _ ⟨rfl, rfl⟩
      refine Ops.gu rfl rfl rfl (Dtu.not (lk rfl)) rfl ?_
      refine Ops.u (Dtu.pickF (lk rfl) (lk rfl)) rfl ?_
      refine Ops.nil ?_
      refine Then.next ?_
      refine Body.cond (lk rfl) (fun _ => ?_) (fun hn => absurd hn (by simp [hk]))
      refine Body.seq ?_
      refine Body.region ?_
      refine Ops.u (Dtu.build ty24 pl24 (lkp rfl) rfl rfl) rfl ?_
      refine Ops.e (Stp.store 2 Try.sizeOf24 (lk rfl) (lk rfl) rfl rfl rfl rfl rfl rfl rfl ?_)
      refine Ops.u (Dtu.asg (lk rfl)) rfl ?_
      refine Ops.nil ?_
      refine Then.next ?_
      refine Body.ret ?_
      refine Then.ret ?_
      exact ⟨.inr rfl, _, Loads.agg Try.isAgg24 Try.sizeOf24 (Rds.ow (m := 6) 2 rfl rfl) rfl, _, pk [] rfl, rfl, rfl⟩
    | true =>
      obtain ⟨fa, oa⟩ := View.ok_fits hk
      have hma := mul_bound fa.1
      have hla : a.cells.length ≤ 480 := by have := fa.2.2.2.2.2; omega
      refine Ops.u (Dtu.mv (lk rfl)) rfl ?_
      refine Ops.u (Dtu.ext (lk rfl) rfl) rfl ?_
      refine Ops.u (Dtu.ext (lk rfl) rfl) rfl ?_
      refine Ops.u (Dtu.asg (lk rfl)) rfl ?_
      refine Ops.u (Dtu.asg (lk rfl)) rfl ?_
      refine Ops.nil ?_
      refine Then.next ?_
      refine Body.seq ?_
      refine Body.seq ?_
      refine Body.region ?_
      refine Ops.u (Dtu.mv (lk rfl)) rfl ?_
      refine Ops.u (Dtu.not (lk rfl)) rfl ?_
      refine Ops.u (Dtu.mv (lk rfl)) rfl ?_
      refine Ops.gd rfl rfl rfl (Det.lda Try.isAgg24 Try.sizeOf24 (lk rfl) (Rds.ow (m := 6) 3 rfl rfl) rfl) rfl ?_
      refine Ops.gs rfl rfl rfl (Stp.call rfl Try.call25 (lks rfl) (fun E' le hat => right_ok E' ⟨_, _, _, _, _, _⟩ _ (Sl.mono (by assumption) le)) ?_) rfl
      rintro _ _ ⟨rfl, rfl⟩
      refine Ops.gu rfl rfl rfl (Dtu.not (lk rfl)) rfl ?_
      refine Ops.u (Dtu.pickF (lk rfl) (lk rfl)) rfl ?_
      refine Ops.nil ?_
      refine Then.next ?_
      refine Body.cond (lk rfl) (fun hn => absurd hn (by simp [hk])) (fun _ => ?_)
      refine Body.skip ?_
      refine Then.next ?_
      refine Body.seq ?_
      refine Body.draw mixed ?_
      refine AB.u 0 rfl (by decide +kernel) (Dtu.mv (lk rfl)) rfl ?_
      refine AB.u 1 rfl (by decide +kernel) (Dtu.ix (i := 0) Try.underlying32 Try.sizeOf5 (Sl.up h) (lk rfl) (lk rfl) (by omega) (by omega)) rfl ?_
      refine AB.d 2 rfl (by decide +kernel) rfl (Det.ld Try.isAgg5 (lk rfl) (Rd.sl (Sl.up h) (gm (by omega)))) rfl ?_
      refine AB.u 3 rfl (by decide +kernel) (Dtu.cvt Try.underlying5 Try.underlying3 (lk rfl) (w64 (by omega) (by omega))) rfl ?_
      refine AB.u 4 rfl (by decide +kernel) (Dtu.mv (lk rfl)) rfl ?_
      refine AB.u 5 rfl (by decide +kernel) (Dtu.ix (i := 1) Try.underlying32 Try.sizeOf5 (Sl.up h) (lk rfl) (lk rfl) (by omega) (by omega)) rfl ?_
      refine AB.d 6 rfl (by decide +kernel) rfl (Det.ld Try.isAgg5 (lk rfl) (Rd.sl (Sl.up h) (gm (by omega)))) rfl ?_
      refine AB.u 7 rfl (by decide +kernel) (Dtu.cvt Try.underlying5 Try.underlying3 (lk rfl) (w64 (by omega) (by omega))) rfl ?_
      refine AB.u 8 rfl (by decide +kernel) (Dtu.mv (lk rfl)) rfl ?_
      refine AB.u 9 rfl (by decide +kernel) (Dtu.ix (i := 2) Try.underlying32 Try.sizeOf5 (Sl.up h) (lk rfl) (lk rfl) (by omega) (by omega)) rfl ?_
      refine AB.d 10 rfl (by decide +kernel) rfl (Det.ld Try.isAgg5 (lk rfl) (Rd.sl (Sl.up h) (gm (by omega)))) rfl ?_
      refine AB.u 11 rfl (by decide +kernel) (Dtu.cvt Try.underlying5 Try.underlying3 (lk rfl) (w64 (by omega) (by omega))) rfl ?_
      refine AB.u 12 rfl (by decide +kernel) (Dtu.mv (lk rfl)) rfl ?_
      refine AB.u 13 rfl (by decide +kernel) (Dtu.ix (i := 3) Try.underlying32 Try.sizeOf5 (Sl.up h) (lk rfl) (lk rfl) (by omega) (by omega)) rfl ?_
      refine AB.d 14 rfl (by decide +kernel) rfl (Det.ld Try.isAgg5 (lk rfl) (Rd.sl (Sl.up h) (gm (by omega)))) rfl ?_
      refine AB.u 15 rfl (by decide +kernel) (Dtu.cvt Try.underlying5 Try.underlying3 (lk rfl) (w64 (by omega) (by omega))) rfl ?_
      refine AB.u 16 rfl (by decide +kernel) (Dtu.mv (lk rfl)) rfl ?_
      refine AB.u 17 rfl (by decide +kernel) (Dtu.ix (i := 4) Try.underlying32 Try.sizeOf5 (Sl.up h) (lk rfl) (lk rfl) (by omega) (by omega)) rfl ?_
      refine AB.d 18 rfl (by decide +kernel) rfl (Det.ld Try.isAgg5 (lk rfl) (Rd.sl (Sl.up h) (gm (by omega)))) rfl ?_
      refine AB.u 19 rfl (by decide +kernel) (Dtu.eql (lk rfl) (lk rfl)) rfl ?_
      refine AB.u 20 rfl (by decide +kernel) (Dtu.build ty24 pl24 (lkp rfl) rfl rfl) rfl ?_
      refine AB.s 21 rfl (by decide +kernel) (by decide +kernel) (Stp.alloc ty24 (fun b8 => ?_)) rfl
      refine AB.e 22 rfl (by decide +kernel) (by decide +kernel) (Stp.store 0 Try.sizeOf24 (lk rfl) (lk rfl) rfl rfl rfl rfl rfl rfl rfl ?_)
      refine AB.done (by decide +kernel) ?_
      refine Then.next ?_
      refine Body.seq ?_
      refine Body.seq ?_
      refine Body.region ?_
      refine Ops.u (Dtu.fld fa24_0 (lk rfl)) rfl ?_
      refine Ops.d (Det.ld Try.isAgg3 (lk rfl) (Rd.ow 0 rfl rfl)) rfl ?_
      refine Ops.u (Dtu.gtr (lk rfl) (lk rfl)) rfl ?_
      refine Ops.u (Dtu.mv (lk rfl)) rfl ?_
      refine Ops.decP 51 rfl (fun c51 => ?_) (fun c51 => ?_)
      · rw [hV, if_pos (.inr (.inl (by omega)))]
        refine Ops.gn rfl rfl rfl rfl rfl ?_
        refine Ops.gn rfl rfl rfl rfl rfl ?_
        refine Ops.gn rfl rfl rfl rfl rfl ?_
        refine Ops.u (Dtu.pickT (lk rfl) (lk rfl)) rfl ?_
        refine Ops.nil ?_
        refine Then.next ?_
        refine Body.condT (lk rfl) ?_
        refine Body.seq ?_
        refine Body.region ?_
        refine Ops.u (Dtu.build ty24 pl24 (lkp rfl) rfl rfl) rfl ?_
        refine Ops.e (Stp.store 3 Try.sizeOf24 (lk rfl) (lk rfl) rfl rfl rfl rfl rfl rfl rfl ?_)
        refine Ops.u (Dtu.asg (lk rfl)) rfl ?_
        refine Ops.nil ?_
        refine Then.next ?_
        refine Body.ret ?_
        refine Then.ret ?_
        exact ⟨.inr rfl, _, Loads.agg Try.isAgg24 Try.sizeOf24 (Rds.ow (m := 6) 3 rfl rfl) rfl, _, pk [] rfl, rfl, rfl⟩
      · refine Ops.gu rfl rfl rfl (Dtu.fld fa24_1 (lk rfl)) rfl ?_
        refine Ops.gd rfl rfl rfl (Det.ld Try.isAgg3 (lk rfl) (Rd.ow 0 rfl rfl)) rfl ?_
        refine Ops.gu rfl rfl rfl (Dtu.gtr (lk rfl) (lk rfl)) rfl ?_
        refine Ops.u (Dtu.pickF (lk rfl) (lk rfl)) rfl ?_
        refine Ops.nil ?_
        refine Then.next ?_
        refine Body.condP (lk rfl) (fun c55 => ?_) (fun c55 => ?_)
        · rw [hV, if_pos (.inr (.inr (by omega)))]
          refine Body.seq ?_
          refine Body.region ?_
          refine Ops.u (Dtu.build ty24 pl24 (lkp rfl) rfl rfl) rfl ?_
          refine Ops.e (Stp.store 3 Try.sizeOf24 (lk rfl) (lk rfl) rfl rfl rfl rfl rfl rfl rfl ?_)
          refine Ops.u (Dtu.asg (lk rfl)) rfl ?_
          refine Ops.nil ?_
          refine Then.next ?_
          refine Body.ret ?_
          refine Then.ret ?_
          exact ⟨.inr rfl, _, Loads.agg Try.isAgg24 Try.sizeOf24 (Rds.ow (m := 6) 3 rfl rfl) rfl, _, pk [] rfl, rfl, rfl⟩
        · rw [if_neg (by
            rintro (h | h)
            · rw [hk] at h; cases h
            · omega)] at hV
          have hN := baseC_len (a := a) (r := bs[0]!) (k := bs[1]!) (by omega) hla
          have hBf := baseC_fl hfl bs[0]! bs[1]!
          have hW : applyW a bs rs = ⟨bs[0]!, bs[1]!, applyL (baseC a bs[0]! bs[1]!) 0 rs, bs[2]!, bs[3]!, decide (bs[4]! = 1)⟩ := rfl
          refine Body.skip ?_
          refine Then.next ?_
          refine Body.seq ?_
          refine Body.region ?_
          refine Ops.d (Det.lda Try.isAgg24 Try.sizeOf24 (lk rfl) (Rds.ow (m := 6) 4 rfl rfl) rfl) rfl ?_
          refine Ops.u (Dtu.fld fa24_0 (lk rfl)) rfl ?_
          refine Ops.d (Det.ld Try.isAgg3 (lk rfl) (Rd.ow 0 rfl rfl)) rfl ?_
          refine Ops.u (Dtu.fld fa24_1 (lk rfl)) rfl ?_
          refine Ops.d (Det.ld Try.isAgg3 (lk rfl) (Rd.ow 0 rfl rfl)) rfl ?_
          refine Ops.s (Stp.call rfl Try.call58 (lks rfl) (fun E' le hat => base_ok E' a (.slice sa sm sc) bs[0]! bs[1]! (Sl.mono ha le) hla (by omega)) ?_) rfl
          rintro _ _ ⟨w1, w2, w3, rfl, rfl⟩
          generalize baseC a bs[0]! bs[1]! = C at *
          refine Ops.u (Dtu.fld fa24_2 (lk rfl)) rfl ?_
          refine Ops.e (Stp.store 1 Try.sizeOf22 (lk rfl) (lk rfl) rfl rfl rfl rfl rfl rfl rfl ?_)
          refine Ops.nil ?_
          refine Then.next ?_
          refine Body.seq ?_
          refine Body.region ?_
          refine Ops.u (Dtu.asg (lk rfl)) rfl ?_
          refine Ops.nil ?_
          refine Then.next ?_
          refine Body.seq ?_
          refine Body.label ?_
          refine Then.next ?_
          refine Body.seqJ (γ := List Cell × Option Addr × Nat × Nat) rfl (fun _ => []) (fun g => [osl 55 4 (.slice g.2.1 g.2.2.1 g.2.2.2) g.1.length (g.1.flatMap Cell.enc), own b8 [.int .i64 bs[0]!, .int .i64 bs[1]!, .slice g.2.1 g.2.2.1 g.2.2.2, .int .i64 bs[2]!, .int .i64 bs[3]!, .bool (decide (bs[4]! = 1))] 24, own b4 [.int .i64 0, .int .i64 0, .slice none 0 0, .int .i64 0, .int .i64 0, .bool false] 24, own b2 [.int .i64 a.rows, .int .i64 a.cols, .slice sa sm sc, .int .i64 a.row, .int .i64 a.col, .bool a.vis] 24]) (fun g => applyL C 0 rs = g.1) ?_ ?_
          · refine Body.seq ?_
            refine Body.region ?_
            refine Ops.u (Dtu.mv (lk rfl)) rfl ?_
            refine Ops.u (Dtu.lenS Try.underlying111 (Sl.osl 2 rfl) (lk rfl)) rfl ?_
            refine Ops.u (Dtu.mv (lk rfl)) rfl ?_
            refine Ops.nil ?_
            refine Then.next ?_
            refine Body.block ?_
            refine Body.loopF (γ := Nat × List Cell × Nat) rfl (fun g => [(66, .int .i64 g.1), (9, .int .i64 g.2.2)]) (fun g => [osl 55 4 (.slice w1 w2 w3) g.2.1.length (g.2.1.flatMap Cell.enc), own b8 [.int .i64 bs[0]!, .int .i64 bs[1]!, .slice w1 w2 w3, .int .i64 bs[2]!, .int .i64 bs[3]!, .bool (decide (bs[4]! = 1))] 24, osl 115 2 (.slice l1 l2 l3) L.length (L.flatMap RunV.enc), many (L.map RunV.own), own b4 [.int .i64 0, .int .i64 0, .slice none 0 0, .int .i64 0, .int .i64 0, .bool false] 24, own b2 [.int .i64 a.rows, .int .i64 a.cols, .slice sa sm sc, .int .i64 a.row, .int .i64 a.col, .bool a.vis] 24])
              (fun g => g.1 ≤ L.length ∧ applyL g.2.1 g.2.2 (rs.drop g.1) = applyL C 0 rs ∧ g.2.1.length = C.length ∧ g.2.2 ≤ C.length) (fun g => L.length - g.1) (0, C, 0) ⟨by simp, by simp, rfl, by simp⟩ ⟨rfl, rfl, trivial⟩ rfl ?_
            rintro ⟨j, B, p⟩ u ⟨hj, hA, hBl, hp⟩
            dsimp only at hj hA hBl hp ⊢
            refine Body.seq ?_
            refine Body.region ?_
            refine Ops.u (Dtu.lss (lk rfl) (lk rfl)) rfl ?_
            refine Ops.nil ?_
            refine Then.next ?_
            refine Body.seq ?_
            refine Body.condP (lk rfl) (fun c67 => ?_) (fun c67 => ?_)
            · have hmj : (L.map RunV.own)[j]? = some (osl 55 4 (.slice L[j]!.a L[j]!.m L[j]!.c) L[j]!.cells.length (L[j]!.cells.flatMap Cell.enc)) := by
                rw [List.getElem?_map, getElem!_pos L j (by omega), List.getElem?_eq_getElem (by omega)]; rfl
              have hrj : rs.drop j = L[j]!.val :: rs.drop (j + 1) := by
                rw [← hL, ← List.map_drop, ← List.map_drop, List.drop_eq_getElem_cons (by omega : j < L.length), getElem!_pos L j (by omega)]; rfl
              have hfj : RunFine L[j]!.val := hfine _ (by rw [← hL]; exact List.mem_map_of_mem (by rw [getElem!_pos L j (by omega)]; exact List.getElem_mem _))
              refine Body.pure (Sl.litLen (Sl.many 3 j rfl hmj)) fun hmm => ?_
              refine Body.pure (Sl.len (Sl.osl 2 rfl)) fun hLl => ?_
              have f1 : 0 ≤ L[j]!.k := hfj.1.1
              have f2 : L[j]!.k ≤ 24000 := hfj.1.2
              obtain ⟨kk, hkk⟩ := Int.eq_ofNat_of_zero_le f1
              have hAe : applyL B p (rs.drop j) = if B.length < p + kk ∨ B.length - (p + kk) < L[j]!.cells.length then [] else applyL (lay B (p + kk) L[j]!.cells) (p + kk + L[j]!.cells.length) (rs.drop (j + 1)) := by
                rw [hrj]
                show applyL B p ((L[j]!.k, L[j]!.cells) :: rs.drop (j + 1)) = _
                rw [hkk]; rfl
              have hpk : (p : Int) + L[j]!.k = ((p + kk : Nat) : Int) := by omega
              refine Body.skip ?_
              refine Then.next ?_
              refine Body.seq ?_
              refine Body.block ?_
              refine Body.seq ?_
              refine Body.region ?_
              refine Ops.u (Dtu.ix (i := (j)) Try.underlying111 Try.sizeOf115 (Sl.osl 2 rfl) (lk rfl) (lk rfl) (by omega) (by omega)) rfl ?_
              refine Ops.d (Det.lda Try.isAgg115 Try.sizeOf115 (lk rfl) (Rds.sl (Sl.osl 2 rfl) (gf (sz := 2) (fun _ => rfl) (by omega))) rfl) rfl ?_
              refine Ops.s (Stp.alloc ty115 (fun b11 => ?_)) rfl
              refine Ops.e (Stp.store 0 Try.sizeOf115 (lk rfl) (lk rfl) rfl rfl rfl rfl rfl rfl rfl ?_)
              refine Ops.nil ?_
              refine Then.next ?_
              refine Body.seq ?_
              refine Body.region ?_
              refine Ops.u (Dtu.mv (lk rfl)) rfl ?_
              refine Ops.u (Dtu.fld fa115_0 (lk rfl)) rfl ?_
              refine Ops.d (Det.ld Try.isAgg3 (lk rfl) (Rd.ow 0 rfl rfl)) rfl ?_
              refine Ops.u (Dtu.add (lk rfl) (lk rfl) (w64 (by omega) (by omega))) rfl ?_
              refine Ops.u (Dtu.asg (lk rfl)) rfl ?_
              refine Ops.nil ?_
              refine Then.next ?_
              refine Body.seq ?_
              refine Body.seq ?_
              refine Body.region ?_
              refine Ops.u (Dtu.mv (lk rfl)) rfl ?_
              refine Ops.u (Dtu.fld fa24_2 (lk rfl)) rfl ?_
              refine Ops.d (Det.ld Try.isAgg22 (lk rfl) (Rd.ow 2 rfl rfl)) rfl ?_
              refine Ops.u (Dtu.lenS Try.underlying22 (Sl.osl 1 rfl) (lk rfl)) rfl ?_
              refine Ops.u (Dtu.gtr (lk rfl) (lk rfl)) rfl ?_
              refine Ops.u (Dtu.mv (lk rfl)) rfl ?_
              refine Ops.decP 79 rfl (fun c79 => ?_) (fun c79 => ?_)
              · refine Ops.gn rfl rfl rfl rfl rfl ?_
                refine Ops.gn rfl rfl rfl rfl rfl ?_
                refine Ops.gn rfl rfl rfl rfl rfl ?_
                refine Ops.gn rfl rfl rfl rfl rfl ?_
                refine Ops.gn rfl rfl rfl rfl rfl ?_
                refine Ops.gn rfl rfl rfl rfl rfl ?_
                refine Ops.gn rfl rfl rfl rfl rfl ?_
                refine Ops.gn rfl rfl rfl rfl rfl ?_
                refine Ops.gn rfl rfl rfl rfl rfl ?_
                refine Ops.u (Dtu.pickT (lk rfl) (lk rfl)) rfl ?_
                refine Ops.nil ?_
                refine Then.next ?_
                refine Body.condT (lk rfl) ?_
                refine Body.seq ?_
                refine Body.region ?_
                refine Ops.u (Dtu.fld fa24_2 (lk rfl)) rfl ?_
                refine Ops.e (Stp.store 2 Try.sizeOf22 (lk rfl) (lk rfl) rfl rfl rfl rfl rfl rfl rfl ?_)
                refine Ops.nil ?_
                refine Then.next ?_
                refine Body.exit ?_
                refine Then.exit ?_
                refine Blk.past rfl ?_
                refine Then.exit ?_
                refine Round.exit ?_
                refine Blk.here ?_
                refine Joint.goW ([], none, 0, 0) rfl rfl rfl trivial (fun w s => osl_nil (pk [2, 4, 4] rfl w s)) ?_
                rw [← hA, hAe, if_pos (.inl (by omega))]
              · refine Ops.gu rfl rfl rfl (Dtu.fld fa115_1 (lk rfl)) rfl ?_
                refine Ops.gd rfl rfl rfl (Det.ld Try.isAgg22 (lk rfl) (Rd.ow 0 rfl rfl)) rfl ?_
                refine Ops.gu rfl rfl rfl (Dtu.lenS Try.underlying22 (Sl.many 4 _ rfl hmj) (lk rfl)) rfl ?_
                refine Ops.gu rfl rfl rfl (Dtu.fld fa24_2 (lk rfl)) rfl ?_
                refine Ops.gd rfl rfl rfl (Det.ld Try.isAgg22 (lk rfl) (Rd.ow 2 rfl rfl)) rfl ?_
                refine Ops.gu rfl rfl rfl (Dtu.lenS Try.underlying22 (Sl.osl 1 rfl) (lk rfl)) rfl ?_
                refine Ops.gu rfl rfl rfl (Dtu.mv (lk rfl)) rfl ?_
                refine Ops.gu rfl rfl rfl (Dtu.sub (lk rfl) (lk rfl) (w64 (by omega) (by omega))) rfl ?_
                refine Ops.gu rfl rfl rfl (Dtu.gtr (lk rfl) (lk rfl)) rfl ?_
                refine Ops.u (Dtu.pickF (lk rfl) (lk rfl)) rfl ?_
                refine Ops.nil ?_
                refine Then.next ?_
                refine Body.condP (lk rfl) (fun c89 => ?_) (fun c89 => ?_)
                · refine Body.seq ?_
                  refine Body.region ?_
                  refine Ops.u (Dtu.fld fa24_2 (lk rfl)) rfl ?_
                  refine Ops.e (Stp.store 2 Try.sizeOf22 (lk rfl) (lk rfl) rfl rfl rfl rfl rfl rfl rfl ?_)
                  refine Ops.nil ?_
                  refine Then.next ?_
                  refine Body.exit ?_
                  refine Then.exit ?_
                  refine Blk.past rfl ?_
                  refine Then.exit ?_
                  refine Round.exit ?_
                  refine Blk.here ?_
                  refine Joint.goW ([], none, 0, 0) rfl rfl rfl trivial (fun w s => osl_nil (pk [2, 4, 4] rfl w s)) ?_
                  rw [← hA, hAe, if_pos (.inr (by omega))]
                · refine Body.skip ?_
                  refine Then.next ?_
                  refine Body.seq ?_
                  refine Body.draw mixed ?_
                  refine AB.u 0 rfl (by decide +kernel) (Dtu.fld fa24_2 (lk rfl)) rfl ?_
                  refine AB.d 1 rfl (by decide +kernel) rfl (Det.ld Try.isAgg22 (lk rfl) (Rd.ow 2 rfl rfl)) rfl ?_
                  refine AB.u 2 rfl (by decide +kernel) (Dtu.mv (lk rfl)) rfl ?_
                  refine AB.u 3 rfl (by decide +kernel) (Dtu.slL (p + L[j]!.k.toNat) Try.underlying22 Try.sizeOf55 (Sl.osl 1 rfl) (lk rfl) (lk rfl) (by omega) (by omega)) rfl ?_
                  refine AB.u 4 rfl (by decide +kernel) (Dtu.fld fa115_1 (lk rfl)) rfl ?_
                  refine AB.d 5 rfl (by decide +kernel) rfl (Det.ld Try.isAgg22 (lk rfl) (Rd.ow 0 rfl rfl)) rfl ?_
                  refine AB.s 6 rfl (by decide +kernel) (by decide +kernel) (Stp.copyF (enc := Cell.enc) (sz := 4) 1 (fun _ => rfl) Try.underlying22 Try.sizeOf55 rfl (lk rfl) (LiesIn.sub' (Sl.osl 1 rfl) (by omega) (by omega)) (by omega) (lk rfl) (Sl.many 4 _ rfl hmj) (fun _ => rfl) rfl ?_) rfl
                  have htn : L[j]!.k.toNat = kk := by omega
                  have hmin : Nat.min L[j]!.cells.length (B.length - (p + kk)) = L[j]!.cells.length := Nat.min_eq_left (by omega)
                  refine AB.done (by decide +kernel) ?_
                  refine Then.next ?_
                  refine Body.region ?_
                  refine Ops.u (Dtu.mv (lk rfl)) rfl ?_
                  refine Ops.u (Dtu.fld fa115_1 (lk rfl)) rfl ?_
                  refine Ops.d (Det.ld Try.isAgg22 (lk rfl) (Rd.ow 0 rfl rfl)) rfl ?_
                  refine Ops.u (Dtu.lenS Try.underlying22 (Sl.many 4 _ rfl hmj) (lk rfl)) rfl ?_
                  refine Ops.u (Dtu.add (lk rfl) (lk rfl) (w64 (by omega) (by omega))) rfl ?_
                  refine Ops.u (Dtu.asg (lk rfl)) rfl ?_
                  refine Ops.nil ?_
                  refine Blk.norm ?_
                  refine Then.next ?_
                  refine Body.region ?_
                  refine Ops.u (Dtu.add (lk rfl) (lk rfl) (w64 (by omega) (by omega))) rfl ?_
                  refine Ops.u (Dtu.mv (lk rfl)) rfl ?_
                  refine Ops.nil ?_
                  refine Round.goK [1, 1, 1, 1, 1, 1] (j + 1, lay B (p + kk) L[j]!.cells, p + kk + L[j]!.cells.length) rfl rfl rfl ⟨int_eq (by simp), int_eq (by dsimp only; omega), trivial⟩ rfl ?_ ⟨by dsimp only; omega, ?_, ?_, by dsimp only; omega⟩ (by dsimp only; omega)
                  · dsimp only
                    rw [lay_len (by omega), htn, hmin, List.take_length]; rfl
                  · dsimp only
                    rw [← hA, hAe, if_neg (by omega)]
                  · dsimp only
                    rw [lay_len (by omega)]; exact hBl
            · have hjL : j = L.length := by omega
              have hAB : applyL C 0 rs = B := by
                rw [← hA, List.drop_eq_nil_of_le (by rw [← hL]; simp; omega)]; rfl
              refine Body.exit ?_
              refine Then.exit ?_
              refine Round.exit ?_
              refine Blk.here ?_
              exact Joint.goK [0, 0, 2, 2] (B, w1, w2, w3) rfl rfl rfl trivial rfl rfl hAB
          · rintro ⟨B, w1, w2, w3⟩ u hB
            dsimp only at hB ⊢
            rw [hB] at hW
            have hBfl : ∀ c ∈ B, c.Fl := by rw [← hB]; exact applyL_fl rs C 0 hBf hfine
            generalize applyW a bs rs = V at *
            subst hW
            cases hkb : View.ok ⟨bs[0]!, bs[1]!, B, bs[2]!, bs[3]!, decide (bs[4]! = 1)⟩ with
            | false =>
              rw [if_neg (by rw [hkb]; simp)] at hV
              rw [hV]
              refine Body.seq ?_
              refine Body.seq ?_
              refine Body.region ?_
              refine Ops.d (Det.lda Try.isAgg24 Try.sizeOf24 (lk rfl) (Rds.ow (m := 6) 3 rfl rfl) rfl) rfl ?_
              refine Ops.d (Det.lda Try.isAgg24 Try.sizeOf24 (lk rfl) (Rds.ow (m := 6) 1 rfl rfl) rfl) rfl ?_
              refine Ops.s (Stp.call rfl Try.call17 (lks rfl) (fun E' le hat => diff_no E' a ⟨bs[0]!, bs[1]!, B, bs[2]!, bs[3]!, decide (bs[4]! = 1)⟩ _ _ (Sl.mono ha le) (Sl.at (hat _ (.head _))) (by rw [hkb]; simp)) ?_) rfl
              rintro _ _ ⟨rfl, rfl⟩
              refine Ops.u (Dtu.mv (lk rfl)) rfl ?_
              refine Ops.u (Dtu.ext (lk rfl) rfl) rfl ?_
              refine Ops.u (Dtu.ext (lk rfl) rfl) rfl ?_
              refine Ops.u (Dtu.asg (lk rfl)) rfl ?_
              refine Ops.u (Dtu.asg (lk rfl)) rfl ?_
              refine Ops.nil ?_
              refine Then.next ?_
              refine Body.seq ?_
              refine Body.region ?_
              refine Ops.u (Dtu.mv (lk rfl)) rfl ?_
              refine Ops.u (Dtu.neq (lk rfl) (lk rfl)) rfl ?_
              refine Ops.u (Dtu.mv (lk rfl)) rfl ?_
              refine Ops.decP 112 rfl (fun _ => ?_) (fun hn => absurd (by first | omega | assumption | decide) hn)
              refine Ops.gn rfl rfl rfl rfl rfl ?_
              refine Ops.gn rfl rfl rfl rfl rfl ?_
              refine Ops.gn rfl rfl rfl rfl rfl ?_
              refine Ops.gn rfl rfl rfl rfl rfl ?_
              refine Ops.u (Dtu.pickT (lk rfl) (lk rfl)) rfl ?_
              refine Ops.nil ?_
              refine Then.next ?_
              refine Body.condT (lk rfl) ?_
              refine Body.seq ?_
              refine Body.region ?_
              refine Ops.u (Dtu.build ty24 pl24 (lkp rfl) rfl rfl) rfl ?_
              refine Ops.e (Stp.store 2 Try.sizeOf24 (lk rfl) (lk rfl) rfl rfl rfl rfl rfl rfl rfl ?_)
              refine Ops.u (Dtu.asg (lk rfl)) rfl ?_
              refine Ops.nil ?_
              refine Then.next ?_
              refine Body.ret ?_
              refine Then.ret ?_
              exact ⟨.inr rfl, _, Loads.agg Try.isAgg24 Try.sizeOf24 (Rds.ow (m := 6) 2 rfl rfl) rfl, _, pk [] rfl, rfl, rfl⟩
            | true =>
              have hbt := difB_byt (a := a) hkb hBfl
              refine Body.seq ?_
              refine Body.seq ?_
              refine Body.region ?_
              refine Ops.d (Det.lda Try.isAgg24 Try.sizeOf24 (lk rfl) (Rds.ow (m := 6) 3 rfl rfl) rfl) rfl ?_
              refine Ops.d (Det.lda Try.isAgg24 Try.sizeOf24 (lk rfl) (Rds.ow (m := 6) 1 rfl rfl) rfl) rfl ?_
              refine Ops.s (Stp.call rfl Try.call17 (lks rfl) (fun E' le hat => diff_ok E' a ⟨bs[0]!, bs[1]!, B, bs[2]!, bs[3]!, decide (bs[4]! = 1)⟩ _ _ (Sl.mono ha le) (Sl.at (hat _ (.head _))) hk hkb) ?_) rfl
              rintro _ _ ⟨s107, rfl, rfl⟩
              refine Ops.u (Dtu.mv (lk rfl)) rfl ?_
              refine Ops.u (Dtu.ext (lk rfl) rfl) rfl ?_
              refine Ops.u (Dtu.ext (lk rfl) rfl) rfl ?_
              refine Ops.u (Dtu.asg (lk rfl)) rfl ?_
              refine Ops.u (Dtu.asg (lk rfl)) rfl ?_
              refine Ops.nil ?_
              refine Then.next ?_
              refine Body.seq ?_
              refine Body.region ?_
              refine Ops.u (Dtu.mv (lk rfl)) rfl ?_
              refine Ops.u (Dtu.neq (lk rfl) (lk rfl)) rfl ?_
              refine Ops.u (Dtu.mv (lk rfl)) rfl ?_
              refine Ops.decP 112 rfl (fun hy => absurd hy (by first | omega | assumption | decide)) (fun _ => ?_)
              refine Ops.gu rfl rfl rfl (Dtu.mv (lk rfl)) rfl ?_
              refine Ops.gu rfl rfl rfl (Dtu.mv (lk rfl)) rfl ?_
              refine Ops.gs rfl rfl rfl (Stp.call rfl Try.call65 (lks rfl) (fun E' le hat => bytesEqual_ok E' _ _ _ _ (by first | exact Sl.mono (by assumption) le | exact Sl.at (hat _ (.head _)) | exact Sl.at (hat _ (.tail _ (.head _))) | exact Sl.at (hat _ (.tail _ (.tail _ (.head _)))) | exact Sl.at (hat _ (.tail _ (.tail _ (.tail _ (.head _))))) | exact Sl.at (hat _ (.tail _ (.tail _ (.tail _ (.tail _ (.head _)))))) | exact Sl.at (hat _ (.tail _ (.tail _ (.tail _ (.tail _ (.tail _ (.head _)))))))) (by first | exact Sl.mono (by assumption) le | exact Sl.at (hat _ (.head _)) | exact Sl.at (hat _ (.tail _ (.head _))) | exact Sl.at (hat _ (.tail _ (.tail _ (.head _)))) | exact Sl.at (hat _ (.tail _ (.tail _ (.tail _ (.head _))))) | exact Sl.at (hat _ (.tail _ (.tail _ (.tail _ (.tail _ (.head _)))))) | exact Sl.at (hat _ (.tail _ (.tail _ (.tail _ (.tail _ (.tail _ (.head _)))))))) (by assumption) (by assumption)) ?_) rfl
              rintro _ _ ⟨rfl, rfl⟩
              refine Ops.gu rfl rfl rfl (Dtu.notP (lk rfl)) rfl ?_
              refine Ops.u (Dtu.pickF (lk rfl) (lk rfl)) rfl ?_
              refine Ops.nil ?_
              refine Then.next ?_
              refine Body.condP (lk rfl) (fun c117 => ?_) (fun c117 => ?_)
              · rw [if_neg (fun h => c117 h.2)] at hV
                rw [hV]
                refine Body.seq ?_
                refine Body.region ?_
                refine Ops.u (Dtu.build ty24 pl24 (lkp rfl) rfl rfl) rfl ?_
                refine Ops.e (Stp.store 3 Try.sizeOf24 (lk rfl) (lk rfl) rfl rfl rfl rfl rfl rfl rfl ?_)
                refine Ops.u (Dtu.asg (lk rfl)) rfl ?_
                refine Ops.nil ?_
                refine Then.next ?_
                refine Body.ret ?_
                refine Then.ret ?_
                exact ⟨.inr rfl, _, Loads.agg Try.isAgg24 Try.sizeOf24 (Rds.ow (m := 6) 3 rfl rfl) rfl, _, pk [] rfl, rfl, rfl⟩
              · rw [if_pos ⟨hkb, Decidable.of_not_not c117⟩] at hV
                rw [hV]
                refine Body.skip ?_
                refine Then.next ?_
                refine Body.seq ?_
                refine Body.region ?_
                refine Ops.d (Det.lda Try.isAgg24 Try.sizeOf24 (lk rfl) (Rds.ow (m := 6) 2 rfl rfl) rfl) rfl ?_
                refine Ops.e (Stp.store 3 Try.sizeOf24 (lk rfl) (lk rfl) rfl rfl rfl rfl rfl rfl rfl ?_)
                refine Ops.u (Dtu.asg (lk rfl)) rfl ?_
                refine Ops.nil ?_
                refine Then.next ?_
                refine Body.ret ?_
                exact ⟨.inr rfl, _, Loads.agg Try.isAgg24 Try.sizeOf24 (Rds.ow (m := 6) 3 rfl rfl) rfl, _, pk [1] rfl, .slice w1 w2 w3, rfl, rfl⟩
end Go.Proofs.Ytijjjdljdjnbaaa
