/- The document's views out of bytes. -/
import Derived.Test.YtijjjdljdjnbaaaRefJ
namespace Go.Proofs.Ytijjjdljdjnbaaa
set_option maxRecDepth 100000
set_option linter.unusedVariables false
set_option linter.unusedSimpArgs false
open Go.Sx

theorem readV_not {bs : List Int} {cs : List Cell} {a : Int} (h : readAll bs = (cs, a)) (ha : a ≠ bs.length) : readV bs = none := by
  unfold readV
  split
  · rfl
  · rw [if_neg (by rintro ⟨e, _⟩; rw [h] at e; exact ha e)]
theorem styleR_cols (bs : List Int) (hb : Byt bs) (p : Int) : 0 ≤ (styleR bs p).1.2.1 ∧ (styleR bs p).1.2.1 < 4294967296 ∧ 0 ≤ (styleR bs p).1.2.2 ∧ (styleR bs p).1.2.2 < 4294967296 := by
  have a1 := getS_bound bs hb (p + 1)
  have a2 := getS_bound bs hb (getS bs (p + 1)).2.1
  unfold styleR
  dsimp only
  (repeat' split) <;> dsimp only <;> omega
theorem cellR_cols (bs : List Int) (hb : Byt bs) (p : Int) : (cellR bs p).1.Cols := by
  have := styleR_cols bs hb p
  unfold cellR Cell.Cols
  dsimp only
  (repeat' split) <;> first | exact this | simp
theorem readCells_cols (bs : List Int) (hb : Byt bs) : ∀ (k : Nat) (cs : List Cell) (a : Int), (∀ c ∈ cs, c.Cols) → ∀ c ∈ (readCells bs k cs a).1, c.Cols
  | 0, cs, a, h => h
  | k + 1, cs, a, h => by
    unfold readCells
    split
    · split
      · exact h
      · split
        · exact h
        · refine readCells_cols bs hb k _ _ fun c hc => ?_
          rcases List.mem_append.1 hc with h1 | h1
          · exact h c h1
          · rw [List.mem_replicate] at h1
            rw [h1.2]; exact cellR_cols bs hb _
    · exact h
set_option maxHeartbeats 3200000 in
theorem rread_ok (E : Env) (b : Value) (bs : List Int) (h : Sl E [] 1 b bs.length (bs.map (.int .u8))) (hb : Byt bs) : Does Try.prog 30 #[b] E [] fun r H' =>
    match readV bs with
    | some v => ∃ s, r = .tuple #[v.val s, .bool true] ∧ H' = [osl 65 11 s v.cells.length (v.cells.flatMap Cell.renc)]
    | none => r = .tuple #[View.none.val (.slice none 0 0), .bool false] ∧ H' = [] := by
  refine Does.pure h.len fun hlen => ?_
  refine Does.go (args := [b]) _ _ Try.func30 rfl Try.ntmps30 rfl rfl ?_
  refine Body.seq ?_
  refine Body.region ?_
  refine Ops.s (Stp.alloc ty30 (fun b2 => ?_)) rfl
  refine Ops.u (Dtu.asg (lk rfl)) rfl ?_
  refine Ops.nil ?_
  refine Then.next ?_
  refine Body.seq ?_
  refine Body.seq ?_
  refine Body.region ?_
  refine Ops.u (Dtu.mv (lk rfl)) rfl ?_
  refine Ops.u (Dtu.lenS Try.underlying32 (Sl.up h) (lk rfl)) rfl ?_
  refine Ops.u (Dtu.lss (lk rfl) (lk rfl)) rfl ?_
  refine Ops.u (Dtu.mv (lk rfl)) rfl ?_
  refine Ops.decP 16 rfl (fun c16 => ?_) (fun c16 => ?_)
  · refine Ops.gn rfl rfl rfl rfl rfl ?_
    refine Ops.gn rfl rfl rfl rfl rfl ?_
    refine Ops.gn rfl rfl rfl rfl rfl ?_
    refine Ops.gn rfl rfl rfl rfl rfl ?_
    refine Ops.u (Dtu.pickT (lk rfl) (lk rfl)) rfl ?_
    refine Ops.nil ?_
    refine Then.next ?_
    refine Body.condT (lk rfl) ?_
    refine Body.seq ?_
    refine Body.region ?_
    refine Ops.u (Dtu.build ty30 pl30 (lkp rfl) rfl rfl) rfl ?_
    refine Ops.e (Stp.store 0 Try.sizeOf30 (lk rfl) (lk rfl) rfl rfl rfl rfl rfl rfl rfl ?_)
    refine Ops.u (Dtu.asg (lk rfl)) rfl ?_
    refine Ops.nil ?_
    refine Then.next ?_
    refine Body.ret ?_
    refine Then.ret ?_
    refine ⟨.inr rfl, _, Loads.agg Try.isAgg30 Try.sizeOf30 (Rds.ow (m := 6) 0 rfl rfl) rfl, _, pk [] rfl, ?_⟩
    rw [show readV bs = none by unfold readV; rw [if_pos (.inl (by omega))]]
    exact ⟨rfl, rfl⟩
  · have d0 := hb 0 (by omega)
    have d1 := hb 1 (by omega)
    have d2 := hb 2 (by omega)
    have d3 := hb 3 (by omega)
    have d4 := hb 4 (by omega)
    refine Ops.gu rfl rfl rfl (Dtu.mv (lk rfl)) rfl ?_
    refine Ops.gu rfl rfl rfl (Dtu.ix (i := 4) Try.underlying32 Try.sizeOf5 (Sl.up h) (lk rfl) (lk rfl) (by omega) (by omega)) rfl ?_
    refine Ops.gd rfl rfl rfl (Det.ld Try.isAgg5 (lk rfl) (Rd.sl (Sl.up h) (gm (by omega)))) rfl ?_
    refine Ops.gu rfl rfl rfl (Dtu.gtr (lk rfl) (lk rfl)) rfl ?_
    refine Ops.u (Dtu.pickF (lk rfl) (lk rfl)) rfl ?_
    refine Ops.nil ?_
    refine Then.next ?_
    refine Body.condP (lk rfl) (fun c21 => ?_) (fun c21 => ?_)
    · refine Body.seq ?_
      refine Body.region ?_
      refine Ops.u (Dtu.build ty30 pl30 (lkp rfl) rfl rfl) rfl ?_
      refine Ops.e (Stp.store 0 Try.sizeOf30 (lk rfl) (lk rfl) rfl rfl rfl rfl rfl rfl rfl ?_)
      refine Ops.u (Dtu.asg (lk rfl)) rfl ?_
      refine Ops.nil ?_
      refine Then.next ?_
      refine Body.ret ?_
      refine Then.ret ?_
      refine ⟨.inr rfl, _, Loads.agg Try.isAgg30 Try.sizeOf30 (Rds.ow (m := 6) 0 rfl rfl) rfl, _, pk [] rfl, ?_⟩
      rw [show readV bs = none by unfold readV; rw [if_pos (.inr (by omega))]]
      exact ⟨rfl, rfl⟩
    · refine Body.skip ?_
      refine Then.next ?_
      refine Body.seq ?_
      refine Body.draw mixed ?_
      refine AB.u 0 rfl (by decide +kernel) (Dtu.mv (lk rfl)) rfl ?_
      refine AB.u 1 rfl (by decide +kernel) (Dtu.ix (i := 0) Try.underlying32 Try.sizeOf5 (Sl.up h) (lk rfl) (lk rfl) (by omega) (by omega)) rfl ?_
      refine AB.d 2 rfl (by decide +kernel) rfl (Det.ld Try.isAgg5 (lk rfl) (Rd.sl (Sl.up h) (gm (by omega)))) rfl ?_
      refine AB.u 3 rfl (by decide +kernel) (Dtu.cvt Try.underlying5 Try.underlying3 (lk rfl) (w64 (by omega) (by omega))) rfl ?_
      refine AB.u 4 rfl (by decide +kernel) (Dtu.mv (lk rfl)) rfl ?_
      refine AB.u 5 rfl (by decide +kernel) (Dtu.ix (i := 1) Try.underlying32 Try.sizeOf5 (Sl.up h) (lk rfl) (lk rfl) (by omega) (by omega)) rfl ?_
      refine AB.d 6 rfl (by decide +kernel) rfl (Det.ld Try.isAgg5 (lk rfl) (Rd.sl (Sl.up h) (gm (by omega)))) rfl ?_
      refine AB.u 7 rfl (by decide +kernel) (Dtu.cvt Try.underlying5 Try.underlying3 (lk rfl) (w64 (by omega) (by omega))) rfl ?_
      refine AB.u 8 rfl (by decide +kernel) (Dtu.build ty28 pl28 (lkp rfl) rfl rfl) rfl ?_
      refine AB.u 9 rfl (by decide +kernel) (Dtu.mv (lk rfl)) rfl ?_
      refine AB.u 10 rfl (by decide +kernel) (Dtu.ix (i := 2) Try.underlying32 Try.sizeOf5 (Sl.up h) (lk rfl) (lk rfl) (by omega) (by omega)) rfl ?_
      refine AB.d 11 rfl (by decide +kernel) rfl (Det.ld Try.isAgg5 (lk rfl) (Rd.sl (Sl.up h) (gm (by omega)))) rfl ?_
      refine AB.u 12 rfl (by decide +kernel) (Dtu.cvt Try.underlying5 Try.underlying3 (lk rfl) (w64 (by omega) (by omega))) rfl ?_
      refine AB.u 13 rfl (by decide +kernel) (Dtu.mv (lk rfl)) rfl ?_
      refine AB.u 14 rfl (by decide +kernel) (Dtu.ix (i := 3) Try.underlying32 Try.sizeOf5 (Sl.up h) (lk rfl) (lk rfl) (by omega) (by omega)) rfl ?_
      refine AB.d 15 rfl (by decide +kernel) rfl (Det.ld Try.isAgg5 (lk rfl) (Rd.sl (Sl.up h) (gm (by omega)))) rfl ?_
      refine AB.u 16 rfl (by decide +kernel) (Dtu.cvt Try.underlying5 Try.underlying3 (lk rfl) (w64 (by omega) (by omega))) rfl ?_
      refine AB.u 17 rfl (by decide +kernel) (Dtu.mv (lk rfl)) rfl ?_
      refine AB.u 18 rfl (by decide +kernel) (Dtu.ix (i := 4) Try.underlying32 Try.sizeOf5 (Sl.up h) (lk rfl) (lk rfl) (by omega) (by omega)) rfl ?_
      refine AB.d 19 rfl (by decide +kernel) rfl (Det.ld Try.isAgg5 (lk rfl) (Rd.sl (Sl.up h) (gm (by omega)))) rfl ?_
      refine AB.u 20 rfl (by decide +kernel) (Dtu.eql (lk rfl) (lk rfl)) rfl ?_
      refine AB.u 21 rfl (by decide +kernel) (Dtu.build ty30 pl30 (lkp rfl) rfl rfl) rfl ?_
      refine AB.s 22 rfl (by decide +kernel) (by decide +kernel) (Stp.alloc ty30 (fun b4 => ?_)) rfl
      refine AB.e 23 rfl (by decide +kernel) (by decide +kernel) (Stp.store 0 Try.sizeOf30 (lk rfl) (lk rfl) rfl rfl rfl rfl rfl rfl rfl ?_)
      refine AB.done (by decide +kernel) ?_
      refine Then.next ?_
      refine Body.seq ?_
      refine Body.region ?_
      refine Ops.u (Dtu.asg (lk rfl)) rfl ?_
      refine Ops.nil ?_
      refine Then.next ?_
      refine Body.seq ?_
      refine Body.block ?_
      refine Body.conseq (H' := [osl 65 11 (.slice none 0 0) 0 [], own b4 [.int .i64 bs[0]!, .int .i64 bs[1]!, .slice none 0 0, .int .i64 bs[2]!, .int .i64 bs[3]!, .bool (decide (bs[4]! = 1))] 30, own b2 [.int .i64 0, .int .i64 0, .slice none 0 0, .int .i64 0, .int .i64 0, .bool false] 30]) (fun w s => osl_nil s) ?_
      refine Body.loopF (γ := Nat × List Cell × Int × Value) rfl (fun g => [(5, .int .i64 g.2.2.1)]) (fun g => [osl 65 11 g.2.2.2 g.2.1.length (g.2.1.flatMap Cell.renc), own b4 [.int .i64 bs[0]!, .int .i64 bs[1]!, g.2.2.2, .int .i64 bs[2]!, .int .i64 bs[3]!, .bool (decide (bs[4]! = 1))] 30, own b2 [.int .i64 0, .int .i64 0, .slice none 0 0, .int .i64 0, .int .i64 0, .bool false] 30])
        (fun g => readCells bs g.1 g.2.1 g.2.2.1 = readAll bs ∧ 0 ≤ g.2.2.1 ∧ g.2.2.1 ≤ bs.length ∧ (bs.length : Int) - g.2.2.1 < g.1 ∧ g.2.1.length ≤ 960) (fun g => g.1) (bs.length + 1, [], 5, .slice none 0 0) ⟨rfl, by simp, by simp; omega, by simp; omega, by simp⟩ ⟨rfl, trivial⟩ rfl ?_
      rintro ⟨k, cs, a, O⟩ u ⟨hr, ha0, ha1, hk, hn⟩
      dsimp only at hr ha0 ha1 hk hn ⊢
      obtain ⟨k, rfl⟩ : ∃ k', k = k' + 1 := ⟨k - 1, by omega⟩
      have g1 := getS_bound bs hb a
      have g2 := getS_next bs a
      rw [readCells] at hr
      refine Body.pure (Sl.isSl (Sl.osl 0 rfl)) fun hO => ?_
      obtain ⟨oa, om, oc, rfl⟩ := hO
      refine Body.seq ?_
      refine Body.seq ?_
      refine Body.region ?_
      refine Ops.u (Dtu.mv (lk rfl)) rfl ?_
      refine Ops.u (Dtu.mv (lk rfl)) rfl ?_
      refine Ops.u (Dtu.lenS Try.underlying32 (Sl.up h) (lk rfl)) rfl ?_
      refine Ops.u (Dtu.lss (lk rfl) (lk rfl)) rfl ?_
      refine Ops.nil ?_
      refine Then.next ?_
      refine Body.condP (lk rfl) (fun c48 => ?_) (fun c48 => ?_)
      · rw [if_pos c48] at hr
        refine Body.skip ?_
        refine Then.next ?_
        refine Body.block ?_
        refine Body.seq ?_
        refine Body.region ?_
        refine Ops.u (Dtu.mv (lk rfl)) rfl ?_
        refine Ops.u (Dtu.mv (lk rfl)) rfl ?_
        refine Ops.s (Stp.call rfl Try.call66 (lks rfl) (fun E' le hat => rget_ok E' _ _ _ (Sl.mono (by assumption) le) (by assumption)) ?_) rfl
        rintro _ _ ⟨rfl, rfl⟩
        refine Ops.u (Dtu.mv (lk rfl)) rfl ?_
        refine Ops.u (Dtu.ext (lk rfl) rfl) rfl ?_
        refine Ops.u (Dtu.ext (lk rfl) rfl) rfl ?_
        refine Ops.u (Dtu.ext (lk rfl) rfl) rfl ?_
        refine Ops.u (Dtu.asg (lk rfl)) rfl ?_
        refine Ops.u (Dtu.asg (lk rfl)) rfl ?_
        refine Ops.u (Dtu.asg (lk rfl)) rfl ?_
        refine Ops.nil ?_
        refine Then.next ?_
        refine Body.seq ?_
        refine Body.seq ?_
        refine Body.region ?_
        refine Ops.u (Dtu.mv (lk rfl)) rfl ?_
        refine Ops.u (Dtu.neq (lk rfl) (lk rfl)) rfl ?_
        refine Ops.u (Dtu.mv (lk rfl)) rfl ?_
        refine Ops.decP 58 rfl (fun c58 => ?_) (fun c58 => ?_)
        · have hf : True := trivial
          rw [if_pos (.inl (by omega))] at hr
          refine Ops.gn rfl rfl rfl rfl rfl ?_
          refine Ops.gn rfl rfl rfl rfl rfl ?_
          refine Ops.u (Dtu.pickT (lk rfl) (lk rfl)) rfl ?_
          refine Ops.u (Dtu.mv (lk rfl)) rfl ?_
          refine Ops.gn rfl rfl rfl rfl rfl ?_
          refine Ops.gn rfl rfl rfl rfl rfl ?_
          refine Ops.gn rfl rfl rfl rfl rfl ?_
          refine Ops.gn rfl rfl rfl rfl rfl ?_
          refine Ops.gn rfl rfl rfl rfl rfl ?_
          refine Ops.u (Dtu.pickT (lk rfl) (lk rfl)) rfl ?_
          refine Ops.nil ?_
          refine Then.next ?_
          refine Body.condT (lk rfl) ?_
          refine Body.seq ?_
          refine Body.region ?_
          refine Ops.u (Dtu.build ty30 pl30 (lkp rfl) rfl rfl) rfl ?_
          refine Ops.e (Stp.store 2 Try.sizeOf30 (lk rfl) (lk rfl) rfl rfl rfl rfl rfl rfl rfl ?_)
          refine Ops.u (Dtu.asg (lk rfl)) rfl ?_
          refine Ops.nil ?_
          refine Then.next ?_
          refine Body.ret ?_
          refine Then.ret ?_
          refine Blk.ret ?_
          refine Round.ret ?_
          refine Blk.ret ?_
          refine Then.ret ?_
          rw [readV_not hr.symm (by omega)]
          exact ⟨.inr rfl, _, Loads.agg Try.isAgg30 Try.sizeOf30 (Rds.ow (m := 6) 2 rfl rfl) rfl, _, pk [] rfl, rfl, rfl⟩
        · refine Ops.gu rfl rfl rfl (Dtu.mv (lk rfl)) rfl ?_
          refine Ops.gu rfl rfl rfl (Dtu.gtr (lk rfl) (lk rfl)) rfl ?_
          refine Ops.u (Dtu.pickF (lk rfl) (lk rfl)) rfl ?_
          refine Ops.u (Dtu.mv (lk rfl)) rfl ?_
          refine Ops.decP 62 rfl (fun c62 => ?_) (fun c62 => ?_)
          · have hf : True := trivial
            rw [if_pos (.inr (.inl (by omega)))] at hr
            refine Ops.gn rfl rfl rfl rfl rfl ?_
            refine Ops.gn rfl rfl rfl rfl rfl ?_
            refine Ops.gn rfl rfl rfl rfl rfl ?_
            refine Ops.gn rfl rfl rfl rfl rfl ?_
            refine Ops.gn rfl rfl rfl rfl rfl ?_
            refine Ops.u (Dtu.pickT (lk rfl) (lk rfl)) rfl ?_
            refine Ops.nil ?_
            refine Then.next ?_
            refine Body.condT (lk rfl) ?_
            refine Body.seq ?_
            refine Body.region ?_
            refine Ops.u (Dtu.build ty30 pl30 (lkp rfl) rfl rfl) rfl ?_
            refine Ops.e (Stp.store 2 Try.sizeOf30 (lk rfl) (lk rfl) rfl rfl rfl rfl rfl rfl rfl ?_)
            refine Ops.u (Dtu.asg (lk rfl)) rfl ?_
            refine Ops.nil ?_
            refine Then.next ?_
            refine Body.ret ?_
            refine Then.ret ?_
            refine Blk.ret ?_
            refine Round.ret ?_
            refine Blk.ret ?_
            refine Then.ret ?_
            rw [readV_not hr.symm (by omega)]
            exact ⟨.inr rfl, _, Loads.agg Try.isAgg30 Try.sizeOf30 (Rds.ow (m := 6) 2 rfl rfl) rfl, _, pk [] rfl, rfl, rfl⟩
          · refine Ops.gu rfl rfl rfl (Dtu.fld fa30_0 (lk rfl)) rfl ?_
            refine Ops.gu rfl rfl rfl (Dtu.fld fa28_2 (lk rfl)) rfl ?_
            refine Ops.gd rfl rfl rfl (Det.ld Try.isAgg26 (lk rfl) (Rd.ow 1 rfl rfl)) rfl ?_
            refine Ops.gu rfl rfl rfl (Dtu.lenS Try.underlying26 (Sl.osl 0 rfl) (lk rfl)) rfl ?_
            refine Ops.gu rfl rfl rfl (Dtu.gtr (lk rfl) (lk rfl)) rfl ?_
            refine Ops.u (Dtu.pickF (lk rfl) (lk rfl)) rfl ?_
            refine Ops.nil ?_
            refine Then.next ?_
            refine Body.condP (lk rfl) (fun c68 => ?_) (fun c68 => ?_)
            · have hf : True := trivial
              rw [if_pos (.inr (.inr (by omega)))] at hr
              refine Body.seq ?_
              refine Body.region ?_
              refine Ops.u (Dtu.build ty30 pl30 (lkp rfl) rfl rfl) rfl ?_
              refine Ops.e (Stp.store 2 Try.sizeOf30 (lk rfl) (lk rfl) rfl rfl rfl rfl rfl rfl rfl ?_)
              refine Ops.u (Dtu.asg (lk rfl)) rfl ?_
              refine Ops.nil ?_
              refine Then.next ?_
              refine Body.ret ?_
              refine Then.ret ?_
              refine Blk.ret ?_
              refine Round.ret ?_
              refine Blk.ret ?_
              refine Then.ret ?_
              rw [readV_not hr.symm (by omega)]
              exact ⟨.inr rfl, _, Loads.agg Try.isAgg30 Try.sizeOf30 (Rds.ow (m := 6) 2 rfl rfl) rfl, _, pk [] rfl, rfl, rfl⟩
            · rw [if_neg (by omega)] at hr
              have hnx := g2 (by omega)
              have hfl := cellR_fl bs hb (getS bs a).2.1
              have g3 := cellR_next bs (getS bs a).2.1
              refine Body.skip ?_
              refine Then.next ?_
              refine Body.seq ?_
              refine Body.region ?_
              refine Ops.u (Dtu.mv (lk rfl)) rfl ?_
              refine Ops.u (Dtu.mv (lk rfl)) rfl ?_
              refine Ops.s (Stp.call rfl Try.call35 (lks rfl) (fun E' le hat => rgetCell_ok E' _ _ _ (Sl.mono (by assumption) le) (by assumption)) ?_) rfl
              rintro _ _ ⟨rfl, rfl⟩
              refine Ops.u (Dtu.mv (lk rfl)) rfl ?_
              refine Ops.u (Dtu.ext (lk rfl) rfl) rfl ?_
              refine Ops.u (Dtu.ext (lk rfl) rfl) rfl ?_
              refine Ops.u (Dtu.ext (lk rfl) rfl) rfl ?_
              refine Ops.s (Stp.alloc ty65 (fun b9 => ?_)) rfl
              refine Ops.e (Stp.store 0 Try.sizeOf65 (lk rfl) (lk rfl) rfl rfl rfl rfl rfl rfl rfl ?_)
              refine Ops.u (Dtu.asg (lk rfl)) rfl ?_
              refine Ops.u (Dtu.asg (lk rfl)) rfl ?_
              refine Ops.nil ?_
              refine Then.next ?_
              refine Body.seq ?_
              refine Body.seq ?_
              refine Body.region ?_
              refine Ops.u (Dtu.mv (lk rfl)) rfl ?_
              refine Ops.u (Dtu.neq (lk rfl) (lk rfl)) rfl ?_
              refine Ops.nil ?_
              refine Then.next ?_
              refine Body.condP (lk rfl) (fun c78 => ?_) (fun c78 => ?_)
              · rw [if_pos (by assumption)] at hr
                refine Body.seq ?_
                refine Body.region ?_
                refine Ops.u (Dtu.build ty30 pl30 (lkp rfl) rfl rfl) rfl ?_
                refine Ops.e (Stp.store 3 Try.sizeOf30 (lk rfl) (lk rfl) rfl rfl rfl rfl rfl rfl rfl ?_)
                refine Ops.u (Dtu.asg (lk rfl)) rfl ?_
                refine Ops.nil ?_
                refine Then.next ?_
                refine Body.ret ?_
                refine Then.ret ?_
                refine Blk.ret ?_
                refine Round.ret ?_
                refine Blk.ret ?_
                refine Then.ret ?_
                rw [readV_not hr.symm (by omega)]
                exact ⟨.inr rfl, _, Loads.agg Try.isAgg30 Try.sizeOf30 (Rds.ow (m := 6) 3 rfl rfl) rfl, _, pk [] rfl, rfl, rfl⟩
              · rw [if_neg (by assumption)] at hr
                obtain ⟨q, hq⟩ := Int.eq_ofNat_of_zero_le g1.1
                rw [hq, Int.toNat_natCast] at hr
                have g4 := g3 (by omega)
                refine Body.skip ?_
                refine Then.next ?_
                refine Body.seq ?_
                refine Body.seq ?_
                refine Body.region ?_
                refine Ops.u (Dtu.asg (lk rfl)) rfl ?_
                refine Ops.nil ?_
                refine Then.next ?_
                refine Body.block ?_
                refine Body.loopF (γ := Nat × Value) rfl (fun g => [(12, .int .u64 g.1)]) (fun g => [own b9 (Cell.renc (cellR bs (getS bs a).2.1).1) 65, osl 65 11 g.2 (cs.length + g.1) ((cs ++ List.replicate g.1 (cellR bs (getS bs a).2.1).1).flatMap Cell.renc), own b4 [.int .i64 bs[0]!, .int .i64 bs[1]!, g.2, .int .i64 bs[2]!, .int .i64 bs[3]!, .bool (decide (bs[4]! = 1))] 30, own b2 [.int .i64 0, .int .i64 0, .slice none 0 0, .int .i64 0, .int .i64 0, .bool false] 30])
                  (fun g => g.1 ≤ q) (fun g => q - g.1) (0, .slice oa om oc) (by simp) ⟨rfl, trivial⟩ (by simp; rfl) ?_
                rintro ⟨i, P⟩ u2 hi
                dsimp only at hi ⊢
                refine Body.pure (Sl.isSl (Sl.osl 1 rfl)) fun hP => ?_
                obtain ⟨pa, pm, pc, rfl⟩ := hP
                refine Body.seq ?_
                refine Body.seq ?_
                refine Body.region ?_
                refine Ops.u (Dtu.mv (lk rfl)) rfl ?_
                refine Ops.u (Dtu.mv (lk rfl)) rfl ?_
                refine Ops.u (Dtu.lss (lk rfl) (lk rfl)) rfl ?_
                refine Ops.nil ?_
                refine Then.next ?_
                refine Body.condP (lk rfl) (fun c82 => ?_) (fun c82 => ?_)
                · refine Body.skip ?_
                  refine Then.next ?_
                  refine Body.seq ?_
                  refine Body.block ?_
                  refine Body.region ?_
                  refine Ops.u (Dtu.fld fa30_0 (lk rfl)) rfl ?_
                  refine Ops.u (Dtu.fld fa28_2 (lk rfl)) rfl ?_
                  refine Ops.d (Det.ld Try.isAgg26 (lk rfl) (Rd.ow 2 rfl rfl)) rfl ?_
                  refine Ops.d (Det.lda Try.isAgg65 Try.sizeOf65 (lk rfl) (Rds.ow (m := 11) 0 rfl rfl) rfl) rfl ?_
                  refine Ops.s (Stp.buildSliceO Try.underlying26 ty65 (by decide) (by decide) (lkp rfl) rfl rfl rfl (by decide) (fun v89 => ?_)) rfl
                  refine Ops.s (Stp.append 2 Try.underlying26 ty65 rfl rfl (lk rfl) (lk rfl) (Sl.osl 0 rfl) (by first | rfl | exact all_map (fun _ => rfl) _ | exact all_flat (fun _ => rfl) _) (by omega) (by omega) (fun v90 => ?_)) rfl
                  refine Ops.u (Dtu.fld fa30_0 (lk rfl)) rfl ?_
                  refine Ops.u (Dtu.fld fa28_2 (lk rfl)) rfl ?_
                  refine Ops.pure (Sl.isSl (Sl.osl 2 rfl)) fun h90 => ?_
                  obtain ⟨z1, z2, z3, rfl⟩ := h90
                  refine Ops.e (Stp.store 3 Try.sizeOf26 (lk rfl) (lk rfl) rfl rfl rfl rfl rfl rfl rfl ?_)
                  refine Ops.nil ?_
                  refine Blk.norm ?_
                  refine Then.next ?_
                  refine Body.region ?_
                  refine Ops.u (Dtu.mv (lk rfl)) rfl ?_
                  refine Ops.u (Dtu.add (lk rfl) (lk rfl) (wu64 (by omega) (by omega))) rfl ?_
                  refine Ops.u (Dtu.asg (lk rfl)) rfl ?_
                  refine Ops.nil ?_
                  refine Round.goK [1, 1, 1, 1] (i + 1, .slice z1 z2 z3) rfl rfl rfl ⟨int_eq (by simp), trivial⟩ rfl ?_ (by dsimp only; omega) (by dsimp only; omega)
                  simp [List.replicate_succ', List.flatMap_append, Cell.renc, rsty, Nat.add_assoc]
                · obtain rfl : i = q := by omega
                  refine Body.exit ?_
                  refine Then.exit ?_
                  refine Round.exit ?_
                  refine Blk.here ?_
                  refine Then.next ?_
                  refine Body.region ?_
                  refine Ops.u (Dtu.mv (lk rfl)) rfl ?_
                  refine Ops.u (Dtu.asg (lk rfl)) rfl ?_
                  refine Ops.nil ?_
                  refine Blk.norm ?_
                  refine Round.goK [1, 1, 1] (k, cs ++ List.replicate i (cellR bs (getS bs a).2.1).1, (cellR bs (getS bs a).2.1).2.1, .slice pa pm pc) rfl rfl rfl ⟨rfl, trivial⟩ rfl ?_ ⟨hr, by dsimp only; omega, by dsimp only; omega, by dsimp only; omega, ?_⟩ (by simp)
                  · simp
                  · simp; omega
      · rw [if_neg c48] at hr
        have hfl : ∀ c ∈ cs, c.Fl := by
          have := readCells_fl bs hb (bs.length + 1) [] 5 (by simp)
          have e : readCells bs (bs.length + 1) [] 5 = (cs, a) := hr.symm
          rw [e] at this
          exact this
        have hcols : ∀ c ∈ cs, c.Cols := by
          have := readCells_cols bs hb (bs.length + 1) [] 5 (by simp)
          have e : readCells bs (bs.length + 1) [] 5 = (cs, a) := hr.symm
          rw [e] at this
          exact this
        obtain rfl : a = bs.length := by omega
        have hW : readW bs = ⟨bs[0]!, bs[1]!, cs, bs[2]!, bs[3]!, decide (bs[4]! = 1)⟩ := by unfold readW; rw [← hr]
        have hR : readV bs = if (View.mk bs[0]! bs[1]! cs bs[2]! bs[3]! (decide (bs[4]! = 1))).ok = true ∧ (View.mk bs[0]! bs[1]! cs bs[2]! bs[3]! (decide (bs[4]! = 1))).bytes = bs then some (View.mk bs[0]! bs[1]! cs bs[2]! bs[3]! (decide (bs[4]! = 1))) else none := by
          unfold readV
          rw [if_neg (by omega), hW, ← hr]
          simp only [true_and]
        refine Body.exit ?_
        refine Then.exit ?_
        refine Round.exit ?_
        refine Blk.here ?_
        refine Then.next ?_
        refine Body.seq ?_
        refine Body.seq ?_
        refine Body.draw mixed ?_
        refine AB.d 0 rfl (by decide +kernel) rfl (Det.lda Try.isAgg30 Try.sizeOf30 (lk rfl) (Rds.ow (m := 6) 1 rfl rfl) rfl) rfl ?_
        refine AB.s 1 rfl (by decide +kernel) (by decide +kernel) (Stp.call rfl Try.call18 (lks rfl) (fun E' le hat => rright_ok E' ⟨bs[0]!, bs[1]!, cs, bs[2]!, bs[3]!, decide (bs[4]! = 1)⟩ (.slice oa om oc) (Sl.at (hat _ (.head _))) hcols) ?_) rfl
        rintro _ _ ⟨rfl, rfl⟩
        cases hk : View.ok ⟨bs[0]!, bs[1]!, cs, bs[2]!, bs[3]!, decide (bs[4]! = 1)⟩ with
        | false =>
          have hV : readV bs = none := by rw [hR, if_neg (by rw [hk]; simp)]
          rw [hV]
          refine AB.u 2 rfl (by decide +kernel) (Dtu.not (lk rfl)) rfl ?_
          refine AB.u 3 rfl (by decide +kernel) (Dtu.mv (lk rfl)) rfl ?_
          refine AB.gn 4 rfl (by decide +kernel) rfl rfl rfl rfl rfl ?_
          refine AB.gn 5 rfl (by decide +kernel) rfl rfl rfl rfl rfl ?_
          refine AB.gn 6 rfl (by decide +kernel) rfl rfl rfl rfl rfl ?_
          refine AB.gn 7 rfl (by decide +kernel) rfl rfl rfl rfl rfl ?_
          refine AB.gn 8 rfl (by decide +kernel) rfl rfl rfl rfl rfl ?_
          refine AB.gn 9 rfl (by decide +kernel) rfl rfl rfl rfl rfl ?_
          refine AB.u 10 rfl (by decide +kernel) (Dtu.pickT (lk rfl) (lk rfl)) rfl ?_
          refine AB.done (by decide +kernel) ?_
          refine Then.next ?_
          refine Body.condT (lk rfl) ?_
          refine Body.seq ?_
          refine Body.region ?_
          refine Ops.u (Dtu.build ty30 pl30 (lkp rfl) rfl rfl) rfl ?_
          refine Ops.e (Stp.store 2 Try.sizeOf30 (lk rfl) (lk rfl) rfl rfl rfl rfl rfl rfl rfl ?_)
          refine Ops.u (Dtu.asg (lk rfl)) rfl ?_
          refine Ops.nil ?_
          refine Then.next ?_
          refine Body.ret ?_
          refine Then.ret ?_
          exact ⟨.inr rfl, _, Loads.agg Try.isAgg30 Try.sizeOf30 (Rds.ow (m := 6) 2 rfl rfl) rfl, _, pk [] rfl, rfl, rfl⟩
        | true =>
          have hbt := View.bytes_byt hk hfl
          refine AB.u 2 rfl (by decide +kernel) (Dtu.not (lk rfl)) rfl ?_
          refine AB.u 3 rfl (by decide +kernel) (Dtu.mv (lk rfl)) rfl ?_
          refine AB.gd 4 rfl (by decide +kernel) rfl rfl rfl rfl (Det.lda Try.isAgg30 Try.sizeOf30 (lk rfl) (Rds.ow (m := 6) 1 rfl rfl) rfl) rfl ?_
          refine AB.gu 7 rfl (by decide +kernel) rfl rfl rfl (Dtu.mv (lk rfl)) rfl ?_
          refine AB.gd 8 rfl (by decide +kernel) rfl rfl rfl rfl (Det.bstr Try.underlying32 Try.underlying5 Try.underlying9 (lk rfl) (Sl.up h)) rfl ?_
          refine AB.gs 5 rfl (by decide +kernel) (by decide +kernel) rfl rfl rfl (Stp.call rfl Try.call31 (lks rfl) (fun E' le hat => rwrite_ok E' ⟨bs[0]!, bs[1]!, cs, bs[2]!, bs[3]!, decide (bs[4]! = 1)⟩ (.slice oa om oc) (Sl.at (hat _ (.head _))) hfl hk) ?_) rfl
          rintro _ _ ⟨s99, rfl, rfl⟩
          refine AB.gd 6 rfl (by decide +kernel) rfl rfl rfl rfl (Det.bstr Try.underlying32 Try.underlying5 Try.underlying9 (lk rfl) (Sl.osl 0 rfl)) rfl ?_
          refine AB.gu 9 rfl (by decide +kernel) rfl rfl rfl (Dtu.neStr (lk rfl) (lk rfl)) rfl ?_
          refine AB.u 10 rfl (by decide +kernel) (Dtu.pickF (lk rfl) (lk rfl)) rfl ?_
          refine AB.done (by decide +kernel) ?_
          refine Then.next ?_
          refine Body.condP (lk rfl) (fun c104 => ?_) (fun c104 => ?_)
          · refine Body.seq ?_
            refine Body.region ?_
            refine Ops.u (Dtu.build ty30 pl30 (lkp rfl) rfl rfl) rfl ?_
            refine Ops.e (Stp.store 3 Try.sizeOf30 (lk rfl) (lk rfl) rfl rfl rfl rfl rfl rfl rfl ?_)
            refine Ops.u (Dtu.asg (lk rfl)) rfl ?_
            refine Ops.nil ?_
            refine Then.next ?_
            refine Body.ret ?_
            refine Then.ret ?_
            have hV : readV bs = none := by rw [hR, if_neg (fun h => c104 (by rw [h.2]))]
            rw [hV]
            exact ⟨.inr rfl, _, Loads.agg Try.isAgg30 Try.sizeOf30 (Rds.ow (m := 6) 3 rfl rfl) rfl, _, pk [] rfl, rfl, rfl⟩
          · refine Body.skip ?_
            refine Then.next ?_
            refine Body.seq ?_
            refine Body.region ?_
            refine Ops.d (Det.lda Try.isAgg30 Try.sizeOf30 (lk rfl) (Rds.ow (m := 6) 2 rfl rfl) rfl) rfl ?_
            refine Ops.e (Stp.store 3 Try.sizeOf30 (lk rfl) (lk rfl) rfl rfl rfl rfl rfl rfl rfl ?_)
            refine Ops.u (Dtu.asg (lk rfl)) rfl ?_
            refine Ops.nil ?_
            refine Then.next ?_
            refine Body.ret ?_
            have hV : readV bs = some ⟨bs[0]!, bs[1]!, cs, bs[2]!, bs[3]!, decide (bs[4]! = 1)⟩ := by rw [hR, if_pos ⟨hk, (strOfNums_inj hbt hb).1 (Decidable.of_not_not c104)⟩]
            rw [hV]
            exact ⟨.inr rfl, _, Loads.agg Try.isAgg30 Try.sizeOf30 (Rds.ow (m := 6) 3 rfl rfl) rfl, _, pk [1] rfl, .slice oa om oc, rfl, rfl⟩
end Go.Proofs.Ytijjjdljdjnbaaa
