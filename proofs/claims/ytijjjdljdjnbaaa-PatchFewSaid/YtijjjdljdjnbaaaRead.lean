/- What bytes are read as: a view. -/
import Derived.Test.YtijjjdljdjnbaaaByts
namespace Go.Proofs.Ytijjjdljdjnbaaa
set_option maxRecDepth 100000
set_option linter.unusedVariables false
set_option linter.unusedSimpArgs false
open Go.Sx

theorem bytesEqual_ok (E : Env) (s t : Value) (xs ys : List Int) (hx : Sl E [] 1 s xs.length (xs.map (.int .u8))) (hy : Sl E [] 1 t ys.length (ys.map (.int .u8))) (bx : Byt xs) (by_ : Byt ys) : Does Try.prog 65 #[s, t] E [] fun r H' => r = .bool (decide (xs = ys)) ∧ H' = [] := by
  refine Does.go (args := [s, t]) _ _ Try.func65 rfl Try.ntmps65 rfl rfl ?_
  refine Body.seq ?_
  refine Body.region ?_
  refine Ops.u (Dtu.asg (lk rfl)) rfl ?_
  refine Ops.nil ?_
  refine Then.next ?_
  refine Body.seq ?_
  refine Body.region ?_
  refine Ops.u (Dtu.mv (lk rfl)) rfl ?_
  refine Ops.d (Det.bstr Try.underlying32 Try.underlying5 Try.underlying9 (lk rfl) (Sl.up hx)) rfl ?_
  refine Ops.u (Dtu.mv (lk rfl)) rfl ?_
  refine Ops.d (Det.bstr Try.underlying32 Try.underlying5 Try.underlying9 (lk rfl) (Sl.up hy)) rfl ?_
  refine Ops.u (Dtu.eqStr (lk rfl) (lk rfl)) rfl ?_
  refine Ops.u (Dtu.asg (lk rfl)) rfl ?_
  refine Ops.nil ?_
  refine Then.next ?_
  refine Body.ret ?_
  refine ⟨.inr rfl, _, pk [] rfl, bool_eq ?_, rfl⟩
  rw [decide_eq_true_iff, decide_eq_true_iff, strOfNums_inj bx by_]
/-- the cells that bytes tell from a place on -/
def readCells (bs : List Int) : Nat → List Cell → Int → List Cell × Int
  | 0, cs, a => (cs, a)
  | k + 1, cs, a =>
    if a < bs.length then
      if (getS bs a).2.2 ≠ 0 ∨ 480 < (getS bs a).1 ∨ 480 < cs.length then (cs, a)
      else if (cellR bs (getS bs a).2.1).2.2 ≠ 0 then (cs, a)
      else readCells bs k (cs ++ List.replicate (getS bs a).1.toNat (cellR bs (getS bs a).2.1).1) (cellR bs (getS bs a).2.1).2.1
    else (cs, a)
def readAll (bs : List Int) : List Cell × Int := readCells bs (bs.length + 1) [] 5
def readW (bs : List Int) : View := ⟨bs[0]!, bs[1]!, (readAll bs).1, bs[2]!, bs[3]!, decide (bs[4]! = 1)⟩
/-- the view that bytes are -/
def readV (bs : List Int) : Option View :=
  if bs.length < 5 ∨ 1 < bs[4]! then none
  else if (readAll bs).2 = bs.length ∧ (readW bs).ok = true ∧ (readW bs).bytes = bs then some (readW bs) else none
theorem readCells_fl (bs : List Int) (hb : Byt bs) : ∀ (k : Nat) (cs : List Cell) (a : Int), (∀ c ∈ cs, c.Fl) → ∀ c ∈ (readCells bs k cs a).1, c.Fl
  | 0, cs, a, h => h
  | k + 1, cs, a, h => by
    unfold readCells
    split
    · split
      · exact h
      · split
        · exact h
        · refine readCells_fl bs hb k _ _ fun c hc => ?_
          rcases List.mem_append.1 hc with h1 | h1
          · exact h c h1
          · rw [List.mem_replicate] at h1
            rw [h1.2]; exact cellR_fl bs hb _
    · exact h
set_option maxHeartbeats 1600000 in
theorem read_ok (E : Env) (b : Value) (bs : List Int) (h : Sl E [] 1 b bs.length (bs.map (.int .u8))) (hb : Byt bs) : Does Try.prog 29 #[b] E [] fun r H' =>
    match readV bs with
    | some v => ∃ s, r = .tuple #[v.val s, .int .i64 0] ∧ H' = [osl 55 4 s v.cells.length (v.cells.flatMap Cell.enc)]
    | none => r = .tuple #[View.none.val (.slice none 0 0), .int .i64 3] ∧ H' = [] := by
  refine Does.pure h.len fun hlen => ?_
  refine Does.go (args := [b]) _ _ Try.func29 rfl Try.ntmps29 rfl rfl ?_
  refine Body.seq ?_
  refine Body.region ?_
  refine Ops.s (Stp.alloc ty24 (fun b2 => ?_)) rfl
  refine Ops.u (Dtu.asg (lk rfl)) rfl ?_
  refine Ops.nil ?_
  refine Then.next ?_
  refine Body.scope ?_
  refine Body.seq ?_
  refine Body.seq ?_
  refine Body.region ?_
  refine Ops.u (Dtu.mv (lk rfl)) rfl ?_
  refine Ops.u (Dtu.lenS Try.underlying32 (Sl.up h) (lk rfl)) rfl ?_
  refine Ops.u (Dtu.lss (lk rfl) (lk rfl)) rfl ?_
  refine Ops.u (Dtu.mv (lk rfl)) rfl ?_
  refine Ops.decP 15 rfl (fun c15 => ?_) (fun c15 => ?_)
  · refine Ops.gn rfl rfl rfl rfl rfl ?_
    refine Ops.gn rfl rfl rfl rfl rfl ?_
    refine Ops.gn rfl rfl rfl rfl rfl ?_
    refine Ops.gn rfl rfl rfl rfl rfl ?_
    refine Ops.u (Dtu.pickT (lk rfl) (lk rfl)) rfl ?_
    refine Ops.nil ?_
    refine Then.next ?_
    refine Body.condT (lk rfl) ?_
    refine Body.seq ?_
    refine Body.region ?_
    refine Ops.u (Dtu.build ty24 pl24 (lkp rfl) rfl rfl) rfl ?_
    refine Ops.e (Stp.store 0 Try.sizeOf24 (lk rfl) (lk rfl) rfl rfl rfl rfl rfl rfl rfl ?_)
    refine Ops.u (Dtu.asg (lk rfl)) rfl ?_
    refine Ops.nil ?_
    refine Then.next ?_
    refine Body.ret ?_
    refine Then.ret ?_
    refine ⟨.inr rfl, _, Loads.agg Try.isAgg24 Try.sizeOf24 (Rds.ow (m := 6) 0 rfl rfl) rfl, _, pk [] rfl, ?_⟩
    rw [show readV bs = none by unfold readV; rw [if_pos (.inl (by omega))]]
    exact ⟨rfl, rfl⟩
  · have d0 := hb 0 (by omega)
    have d1 := hb 1 (by omega)
    have d2 := hb 2 (by omega)
    have d3 := hb 3 (by omega)
    have d4 := hb 4 (by omega)
    refine Ops.gu rfl rfl rfl (Dtu.mv (lk rfl)) rfl ?_
    refine Ops.gu rfl rfl rfl (Dtu.ix (i := 4) Try.underlying32 Try.sizeOf5 (Sl.up h) (lk rfl) (lk rfl) (by omega) (by omega)) rfl ?_
    refine Ops.gd rfl rfl rfl (Det.ld Try.isAgg5 (lk rfl) (Rd.sl (Sl.up h) (gm (by omega)))) rfl ?_
    refine Ops.gu rfl rfl rfl (Dtu.gtr (lk rfl) (lk rfl)) rfl ?_
    refine Ops.u (Dtu.pickF (lk rfl) (lk rfl)) rfl ?_
    refine Ops.nil ?_
    refine Then.next ?_
    refine Body.condP (lk rfl) (fun c20 => ?_) (fun c20 => ?_)
    · refine Body.seq ?_
      refine Body.region ?_
      refine Ops.u (Dtu.build ty24 pl24 (lkp rfl) rfl rfl) rfl ?_
      refine Ops.e (Stp.store 0 Try.sizeOf24 (lk rfl) (lk rfl) rfl rfl rfl rfl rfl rfl rfl ?_)
      refine Ops.u (Dtu.asg (lk rfl)) rfl ?_
      refine Ops.nil ?_
      refine Then.next ?_
      refine Body.ret ?_
      refine Then.ret ?_
      refine ⟨.inr rfl, _, Loads.agg Try.isAgg24 Try.sizeOf24 (Rds.ow (m := 6) 0 rfl rfl) rfl, _, pk [] rfl, ?_⟩
      rw [show readV bs = none by unfold readV; rw [if_pos (.inr (by omega))]]
      exact ⟨rfl, rfl⟩
    · refine Body.skip ?_
      refine Then.next ?_
      refine Body.seq ?_
      refine Body.draw mixed ?_
      refine AB.u 0 rfl (by decide +kernel) (Dtu.mv (lk rfl)) rfl ?_
      refine AB.u 1 rfl (by decide +kernel) (Dtu.ix (i := 0) Try.underlying32 Try.sizeOf5 (Sl.up h) (lk rfl) (lk rfl) (by omega) (by omega)) rfl ?_
      refine AB.d 2 rfl (by decide +kernel) rfl (Det.ld Try.isAgg5 (lk rfl) (Rd.sl (Sl.up h) (gm (by omega)))) rfl ?_
      refine AB.u 3 rfl (by decide +kernel) (Dtu.cvt Try.underlying5 Try.underlying3 (lk rfl) (w64 (by omega) (by omega))) rfl ?_
      refine AB.u 4 rfl (by decide +kernel) (Dtu.mv (lk rfl)) rfl ?_
      refine AB.u 5 rfl (by decide +kernel) (Dtu.ix (i := 1) Try.underlying32 Try.sizeOf5 (Sl.up h) (lk rfl) (lk rfl) (by omega) (by omega)) rfl ?_
      refine AB.d 6 rfl (by decide +kernel) rfl (Det.ld Try.isAgg5 (lk rfl) (Rd.sl (Sl.up h) (gm (by omega)))) rfl ?_
      refine AB.u 7 rfl (by decide +kernel) (Dtu.cvt Try.underlying5 Try.underlying3 (lk rfl) (w64 (by omega) (by omega))) rfl ?_
      refine AB.u 8 rfl (by decide +kernel) (Dtu.mv (lk rfl)) rfl ?_
      refine AB.u 9 rfl (by decide +kernel) (Dtu.ix (i := 2) Try.underlying32 Try.sizeOf5 (Sl.up h) (lk rfl) (lk rfl) (by omega) (by omega)) rfl ?_
      refine AB.d 10 rfl (by decide +kernel) rfl (Det.ld Try.isAgg5 (lk rfl) (Rd.sl (Sl.up h) (gm (by omega)))) rfl ?_
      refine AB.u 11 rfl (by decide +kernel) (Dtu.cvt Try.underlying5 Try.underlying3 (lk rfl) (w64 (by omega) (by omega))) rfl ?_
      refine AB.u 12 rfl (by decide +kernel) (Dtu.mv (lk rfl)) rfl ?_
      refine AB.u 13 rfl (by decide +kernel) (Dtu.ix (i := 3) Try.underlying32 Try.sizeOf5 (Sl.up h) (lk rfl) (lk rfl) (by omega) (by omega)) rfl ?_
      refine AB.d 14 rfl (by decide +kernel) rfl (Det.ld Try.isAgg5 (lk rfl) (Rd.sl (Sl.up h) (gm (by omega)))) rfl ?_
      refine AB.u 15 rfl (by decide +kernel) (Dtu.cvt Try.underlying5 Try.underlying3 (lk rfl) (w64 (by omega) (by omega))) rfl ?_
      refine AB.u 16 rfl (by decide +kernel) (Dtu.mv (lk rfl)) rfl ?_
      refine AB.u 17 rfl (by decide +kernel) (Dtu.ix (i := 4) Try.underlying32 Try.sizeOf5 (Sl.up h) (lk rfl) (lk rfl) (by omega) (by omega)) rfl ?_
      refine AB.d 18 rfl (by decide +kernel) rfl (Det.ld Try.isAgg5 (lk rfl) (Rd.sl (Sl.up h) (gm (by omega)))) rfl ?_
      refine AB.u 19 rfl (by decide +kernel) (Dtu.eql (lk rfl) (lk rfl)) rfl ?_
      refine AB.u 20 rfl (by decide +kernel) (Dtu.build ty24 pl24 (lkp rfl) rfl rfl) rfl ?_
      refine AB.s 21 rfl (by decide +kernel) (by decide +kernel) (Stp.alloc ty24 (fun b4 => ?_)) rfl
      refine AB.e 22 rfl (by decide +kernel) (by decide +kernel) (Stp.store 0 Try.sizeOf24 (lk rfl) (lk rfl) rfl rfl rfl rfl rfl rfl rfl ?_)
      refine AB.done (by decide +kernel) ?_
      refine Then.next ?_
      refine Body.seq ?_
      refine Body.region ?_
      refine Ops.u (Dtu.asg (lk rfl)) rfl ?_
      refine Ops.nil ?_
      refine Then.next ?_
      refine Body.seq ?_
      refine Body.label ?_
      refine Then.next ?_
      refine Body.seqJ (γ := List Cell × Int × Value) rfl (fun g => [(5, .int .i64 g.2.1)]) (fun g => [osl 55 4 g.2.2 g.1.length (g.1.flatMap Cell.enc), own b4 [.int .i64 bs[0]!, .int .i64 bs[1]!, g.2.2, .int .i64 bs[2]!, .int .i64 bs[3]!, .bool (decide (bs[4]! = 1))] 24, own b2 [.int .i64 0, .int .i64 0, .slice none 0 0, .int .i64 0, .int .i64 0, .bool false] 24])
        (fun g => readAll bs = (g.1, g.2.1)) ?_ ?_
      · refine Body.conseq (H' := [osl 55 4 (.slice none 0 0) 0 [], own b4 [.int .i64 bs[0]!, .int .i64 bs[1]!, .slice none 0 0, .int .i64 bs[2]!, .int .i64 bs[3]!, .bool (decide (bs[4]! = 1))] 24, own b2 [.int .i64 0, .int .i64 0, .slice none 0 0, .int .i64 0, .int .i64 0, .bool false] 24]) (fun w s => osl_nil s) ?_
        refine Body.block ?_
        refine Body.loopF (γ := Nat × List Cell × Int × Value) rfl (fun g => [(5, .int .i64 g.2.2.1)]) (fun g => [osl 55 4 g.2.2.2 g.2.1.length (g.2.1.flatMap Cell.enc), own b4 [.int .i64 bs[0]!, .int .i64 bs[1]!, g.2.2.2, .int .i64 bs[2]!, .int .i64 bs[3]!, .bool (decide (bs[4]! = 1))] 24, own b2 [.int .i64 0, .int .i64 0, .slice none 0 0, .int .i64 0, .int .i64 0, .bool false] 24])
          (fun g => readCells bs g.1 g.2.1 g.2.2.1 = readAll bs ∧ 0 ≤ g.2.2.1 ∧ g.2.2.1 ≤ bs.length ∧ (bs.length : Int) - g.2.2.1 < g.1 ∧ g.2.1.length ≤ 960) (fun g => g.1) (bs.length + 1, [], 5, .slice none 0 0) ⟨rfl, by simp, by simp; omega, by simp; omega, by simp⟩ ⟨rfl, trivial⟩ rfl ?_
        rintro ⟨k, cs, a, O⟩ u ⟨hr, ha0, ha1, hk, hn⟩
        dsimp only at hr ha0 ha1 hk hn ⊢
        obtain ⟨k, rfl⟩ : ∃ k', k = k' + 1 := ⟨k - 1, by omega⟩
        have g1 := getS_bound bs hb a
        have g2 := getS_next bs a
        rw [readCells] at hr
        refine Body.seq ?_
        refine Body.seq ?_
        refine Body.region ?_
        refine Ops.u (Dtu.mv (lk rfl)) rfl ?_
        refine Ops.u (Dtu.mv (lk rfl)) rfl ?_
        refine Ops.u (Dtu.lenS Try.underlying32 (Sl.up h) (lk rfl)) rfl ?_
        refine Ops.u (Dtu.lss (lk rfl) (lk rfl)) rfl ?_
        refine Ops.nil ?_
        refine Then.next ?_
        refine Body.condP (lk rfl) (fun c46 => ?_) (fun c46 => ?_)
        · rw [if_pos c46] at hr
          refine Body.skip ?_
          refine Then.next ?_
          refine Body.block ?_
          refine Body.seq ?_
          refine Body.region ?_
          refine Ops.u (Dtu.mv (lk rfl)) rfl ?_
          refine Ops.u (Dtu.mv (lk rfl)) rfl ?_
          refine Ops.s (Stp.call rfl Try.call74 (lks rfl) (fun E' le hat => get_ok E' _ _ _ (Sl.mono (by assumption) le) (by assumption)) ?_) rfl
          rintro _ _ ⟨rfl, rfl⟩
          refine Ops.u (Dtu.mv (lk rfl)) rfl ?_
          refine Ops.u (Dtu.ext (lk rfl) rfl) rfl ?_
          refine Ops.u (Dtu.ext (lk rfl) rfl) rfl ?_
          refine Ops.u (Dtu.ext (lk rfl) rfl) rfl ?_
          refine Ops.u (Dtu.asg (lk rfl)) rfl ?_
          refine Ops.u (Dtu.asg (lk rfl)) rfl ?_
          refine Ops.u (Dtu.asg (lk rfl)) rfl ?_
          refine Ops.nil ?_
          refine Then.next ?_
          refine Body.seq ?_
          refine Body.seq ?_
          refine Body.region ?_
          refine Ops.u (Dtu.mv (lk rfl)) rfl ?_
          refine Ops.u (Dtu.neq (lk rfl) (lk rfl)) rfl ?_
          refine Ops.u (Dtu.mv (lk rfl)) rfl ?_
          refine Ops.decP 56 rfl (fun c56 => ?_) (fun c56 => ?_)
          · rw [if_pos (.inl (by omega))] at hr
            refine Ops.gn rfl rfl rfl rfl rfl ?_
            refine Ops.gn rfl rfl rfl rfl rfl ?_
            refine Ops.u (Dtu.pickT (lk rfl) (lk rfl)) rfl ?_
            refine Ops.u (Dtu.mv (lk rfl)) rfl ?_
            refine Ops.gn rfl rfl rfl rfl rfl ?_
            refine Ops.gn rfl rfl rfl rfl rfl ?_
            refine Ops.gn rfl rfl rfl rfl rfl ?_
            refine Ops.gn rfl rfl rfl rfl rfl ?_
            refine Ops.u (Dtu.pickT (lk rfl) (lk rfl)) rfl ?_
            refine Ops.nil ?_
            refine Then.next ?_
            refine Body.condT (lk rfl) ?_
            refine Body.exit ?_
            refine Then.exit ?_
            refine Blk.past rfl ?_
            refine Round.exit ?_
            refine Blk.here ?_
            exact Joint.goK [0, 0, 0] (cs, a, O) rfl rfl rfl ⟨rfl, trivial⟩ rfl rfl hr.symm
          · refine Ops.gu rfl rfl rfl (Dtu.mv (lk rfl)) rfl ?_
            refine Ops.gu rfl rfl rfl (Dtu.gtr (lk rfl) (lk rfl)) rfl ?_
            refine Ops.u (Dtu.pickF (lk rfl) (lk rfl)) rfl ?_
            refine Ops.u (Dtu.mv (lk rfl)) rfl ?_
            refine Ops.decP 60 rfl (fun c60 => ?_) (fun c60 => ?_)
            · rw [if_pos (.inr (.inl (by omega)))] at hr
              refine Ops.gn rfl rfl rfl rfl rfl ?_
              refine Ops.gn rfl rfl rfl rfl rfl ?_
              refine Ops.gn rfl rfl rfl rfl rfl ?_
              refine Ops.gn rfl rfl rfl rfl rfl ?_
              refine Ops.u (Dtu.pickT (lk rfl) (lk rfl)) rfl ?_
              refine Ops.nil ?_
              refine Then.next ?_
              refine Body.condT (lk rfl) ?_
              refine Body.exit ?_
              refine Then.exit ?_
              refine Blk.past rfl ?_
              refine Round.exit ?_
              refine Blk.here ?_
              exact Joint.goK [0, 0, 0] (cs, a, O) rfl rfl rfl ⟨rfl, trivial⟩ rfl rfl hr.symm
            · refine Ops.gu rfl rfl rfl (Dtu.fld fa24_2 (lk rfl)) rfl ?_
              refine Ops.gd rfl rfl rfl (Det.ld Try.isAgg22 (lk rfl) (Rd.ow 1 rfl rfl)) rfl ?_
              refine Ops.gu rfl rfl rfl (Dtu.lenS Try.underlying22 (Sl.osl 0 rfl) (lk rfl)) rfl ?_
              refine Ops.gu rfl rfl rfl (Dtu.gtr (lk rfl) (lk rfl)) rfl ?_
              refine Ops.u (Dtu.pickF (lk rfl) (lk rfl)) rfl ?_
              refine Ops.nil ?_
              refine Then.next ?_
              refine Body.condP (lk rfl) (fun c65 => ?_) (fun c65 => ?_)
              · rw [if_pos (.inr (.inr (by omega)))] at hr
                refine Body.exit ?_
                refine Then.exit ?_
                refine Blk.past rfl ?_
                refine Round.exit ?_
                refine Blk.here ?_
                exact Joint.goK [0, 0, 0] (cs, a, O) rfl rfl rfl ⟨rfl, trivial⟩ rfl rfl hr.symm
              · rw [if_neg (by omega)] at hr
                refine Body.skip ?_
                refine Then.next ?_
                refine Body.seq ?_
                refine Body.region ?_
                refine Ops.u (Dtu.mv (lk rfl)) rfl ?_
                refine Ops.u (Dtu.mv (lk rfl)) rfl ?_
                refine Ops.s (Stp.call rfl Try.call34 (lks rfl) (fun E' le hat => getCell_ok E' _ _ _ (Sl.mono (by assumption) le) (by assumption)) ?_) rfl
                rintro _ _ ⟨rfl, rfl⟩
                refine Ops.u (Dtu.mv (lk rfl)) rfl ?_
                refine Ops.u (Dtu.ext (lk rfl) rfl) rfl ?_
                refine Ops.u (Dtu.ext (lk rfl) rfl) rfl ?_
                refine Ops.u (Dtu.ext (lk rfl) rfl) rfl ?_
                refine Ops.s (Stp.alloc ty55 (fun b9 => ?_)) rfl
                refine Ops.e (Stp.store 0 Try.sizeOf55 (lk rfl) (lk rfl) rfl rfl rfl rfl rfl rfl rfl ?_)
                refine Ops.u (Dtu.asg (lk rfl)) rfl ?_
                refine Ops.u (Dtu.asg (lk rfl)) rfl ?_
                refine Ops.nil ?_
                refine Then.next ?_
                refine Body.seq ?_
                refine Body.seq ?_
                refine Body.region ?_
                refine Ops.u (Dtu.mv (lk rfl)) rfl ?_
                refine Ops.u (Dtu.neq (lk rfl) (lk rfl)) rfl ?_
                refine Ops.nil ?_
                refine Then.next ?_
                refine Body.condP (lk rfl) (fun c74 => ?_) (fun c74 => ?_)
                · rw [if_pos (by assumption)] at hr
                  refine Body.exit ?_
                  refine Then.exit ?_
                  refine Blk.past rfl ?_
                  refine Round.exit ?_
                  refine Blk.here ?_
                  exact Joint.goK [1, 1, 1] (cs, a, O) rfl rfl rfl ⟨rfl, trivial⟩ rfl rfl hr.symm
                · rw [if_neg (by assumption)] at hr
                  have g3 := cellR_next bs (getS bs a).2.1
                  obtain ⟨q, hq⟩ := Int.eq_ofNat_of_zero_le g1.1
                  rw [hq, Int.toNat_natCast] at hr
                  refine Body.skip ?_
                  refine Then.next ?_
                  refine Body.seq ?_
                  refine Body.draw mixed ?_
                  refine AB.u 0 rfl (by decide +kernel) (Dtu.fld fa24_2 (lk rfl)) rfl ?_
                  refine AB.d 1 rfl (by decide +kernel) rfl (Det.ld Try.isAgg22 (lk rfl) (Rd.ow 2 rfl rfl)) rfl ?_
                  refine AB.d 2 rfl (by decide +kernel) rfl (Det.lda Try.isAgg55 Try.sizeOf55 (lk rfl) (Rds.ow (m := 4) 0 rfl rfl) rfl) rfl ?_
                  refine AB.u 4 rfl (by decide +kernel) (Dtu.mv (lk rfl)) rfl ?_
                  refine AB.u 5 rfl (by decide +kernel) (Dtu.cvt Try.underlying75 Try.underlying3 (lk rfl) (w64 (by omega) (by omega))) rfl ?_
                  refine AB.s 3 rfl (by decide +kernel) (by decide +kernel) (Stp.buildSliceO Try.underlying22 ty55 (by decide) (by decide) (lkp rfl) rfl rfl rfl (by decide) (fun v78 => ?_)) rfl
                  have hrep : ∀ E', Sl E' [] 4 v78 1 (cellR bs (getS bs a).2.1).1.enc → Does Try.prog 75 #[v78, .int .i64 (getS bs a).1] E' [] (fun r H' => H' = [osl 55 4 r q ((List.replicate q (cellR bs (getS bs a).2.1).1).flatMap Cell.enc)] ∧ IsSl r) := by
                    intro E' hS
                    rw [hq, ← rep_flat]
                    exact repeatC_ok E' v78 _ q hS rfl (by omega)
                  refine AB.s 6 rfl (by decide +kernel) (by decide +kernel) (Stp.call rfl Try.call75 (lks rfl) (fun E' le hat => hrep E' (Sl.at (hat _ (.head _)))) ?_) rfl
                  rintro r81 _ ⟨rfl, h81⟩
                  refine AB.s 7 rfl (by decide +kernel) (by decide +kernel) (Stp.append 3 Try.underlying22 ty55 rfl rfl (lk rfl) (lk rfl) (Sl.osl 0 rfl) (by first | rfl | exact all_map (fun _ => rfl) _ | exact all_flat (fun _ => rfl) _) (by omega) (by omega) (fun v82 => ?_)) rfl
                  refine AB.u 8 rfl (by decide +kernel) (Dtu.fld fa24_2 (lk rfl)) rfl ?_
                  refine AB.pure (Sl.isSl (Sl.osl 3 rfl)) fun h82 => ?_
                  refine AB.e 9 rfl (by decide +kernel) (by decide +kernel) (Stp.store 4 Try.sizeOf22 (lk rfl) (lk rfl) (IsSl.cells (by assumption)) rfl rfl rfl (by simp [IsSl.one, *]) rfl rfl ?_)
                  refine AB.done (by decide +kernel) ?_
                  refine Then.next ?_
                  refine Body.region ?_
                  refine Ops.u (Dtu.mv (lk rfl)) rfl ?_
                  refine Ops.u (Dtu.asg (lk rfl)) rfl ?_
                  refine Ops.nil ?_
                  refine Blk.norm ?_
                  refine Round.goK [3, 3, 3] (k, cs ++ List.replicate q (cellR bs (getS bs a).2.1).1, (cellR bs (getS bs a).2.1).2.1, v82) rfl rfl rfl ⟨rfl, trivial⟩ rfl ?_ ⟨hr, by dsimp only; omega, by dsimp only; omega, by dsimp only; omega, ?_⟩ (by simp)
                  · simp [List.flatMap_append]
                  · simp; omega
        · rw [if_neg c46] at hr
          refine Body.exit ?_
          refine Then.exit ?_
          refine Round.exit ?_
          refine Blk.here ?_
          exact Joint.goK [0, 0, 0] (cs, a, O) rfl rfl rfl ⟨rfl, trivial⟩ rfl rfl hr.symm
      · rintro ⟨cs, a, O⟩ u hr
        dsimp only at hr ⊢
        refine Body.pure (Sl.isSl (Sl.osl 0 rfl)) fun hO => ?_
        obtain ⟨oa, om, oc, rfl⟩ := hO
        refine Body.seq ?_
        refine Body.seq ?_
        refine Body.region ?_
        refine Ops.d (Det.lda Try.isAgg24 Try.sizeOf24 (lk rfl) (Rds.ow (m := 6) 1 rfl rfl) rfl) rfl ?_
        have hfl : ∀ c ∈ cs, c.Fl := by
          have := readCells_fl bs hb (bs.length + 1) [] 5 (by simp)
          have e : readCells bs (bs.length + 1) [] 5 = (cs, a) := hr
          rw [e] at this
          exact this
        have hW : readW bs = ⟨bs[0]!, bs[1]!, cs, bs[2]!, bs[3]!, decide (bs[4]! = 1)⟩ := by unfold readW; rw [hr]
        have hR : readV bs = if a = bs.length ∧ (View.mk bs[0]! bs[1]! cs bs[2]! bs[3]! (decide (bs[4]! = 1))).ok = true ∧ (View.mk bs[0]! bs[1]! cs bs[2]! bs[3]! (decide (bs[4]! = 1))).bytes = bs then some (View.mk bs[0]! bs[1]! cs bs[2]! bs[3]! (decide (bs[4]! = 1))) else none := by
          unfold readV
          rw [if_neg (by omega), hW, hr]
        generalize hv : View.mk bs[0]! bs[1]! cs bs[2]! bs[3]! (decide (bs[4]! = 1)) = V at *
        have hval : View.val V (.slice oa om oc) = .agg #[.int .i64 bs[0]!, .int .i64 bs[1]!, .slice oa om oc, .int .i64 bs[2]!, .int .i64 bs[3]!, .bool (decide (bs[4]! = 1))] := by rw [← hv]; rfl
        have hcs : V.cells = cs := by rw [← hv]
        cases hk : V.ok with
        | false =>
          have hV : readV bs = none := by rw [hR, if_neg (by simp [hk])]
          rw [hV]
          refine Ops.s (Stp.call rfl Try.call28 (lks rfl) (fun E' le hat => hval ▸ write_no E' V (.slice oa om oc) (by subst hv; exact Sl.at (hat _ (.head _))) hk) ?_) rfl
          rintro _ _ ⟨rfl, rfl⟩
          refine Ops.u (Dtu.mv (lk rfl)) rfl ?_
          refine Ops.u (Dtu.ext (lk rfl) rfl) rfl ?_
          refine Ops.u (Dtu.ext (lk rfl) rfl) rfl ?_
          refine Ops.u (Dtu.asg (lk rfl)) rfl ?_
          refine Ops.u (Dtu.asg (lk rfl)) rfl ?_
          refine Ops.nil ?_
          refine Then.next ?_
          refine Body.seq ?_
          refine Body.region ?_
          refine Ops.u (Dtu.mv (lk rfl)) rfl ?_
          refine Ops.u (Dtu.mv (lk rfl)) rfl ?_
          refine Ops.u (Dtu.lenS Try.underlying32 (Sl.up h) (lk rfl)) rfl ?_
          refine Ops.u (Dtu.neq (lk rfl) (lk rfl)) rfl ?_
          refine Ops.u (Dtu.mv (lk rfl)) rfl ?_
          refine Ops.decP 94 rfl (fun c94 => ?_) (fun c94 => ?_)
          · refine Ops.gn rfl rfl rfl rfl rfl ?_
            refine Ops.gn rfl rfl rfl rfl rfl ?_
            refine Ops.u (Dtu.pickT (lk rfl) (lk rfl)) rfl ?_
            refine Ops.u (Dtu.mv (lk rfl)) rfl ?_
            refine Ops.gn rfl rfl rfl rfl rfl ?_
            refine Ops.gn rfl rfl rfl rfl rfl ?_
            refine Ops.gn rfl rfl rfl rfl rfl ?_
            refine Ops.gn rfl rfl rfl rfl rfl ?_
            refine Ops.u (Dtu.pickT (lk rfl) (lk rfl)) rfl ?_
            refine Ops.nil ?_
            refine Then.next ?_
            refine Body.condT (lk rfl) ?_
            refine Body.seq ?_
            refine Body.region ?_
            refine Ops.u (Dtu.build ty24 pl24 (lkp rfl) rfl rfl) rfl ?_
            refine Ops.e (Stp.store 2 Try.sizeOf24 (lk rfl) (lk rfl) rfl rfl rfl rfl rfl rfl rfl ?_)
            refine Ops.u (Dtu.asg (lk rfl)) rfl ?_
            refine Ops.nil ?_
            refine Then.next ?_
            refine Body.ret ?_
            refine Then.ret ?_
            refine ⟨.inr rfl, _, Loads.agg Try.isAgg24 Try.sizeOf24 (Rds.ow (m := 6) 2 rfl rfl) rfl, _, pk [] rfl, rfl, rfl⟩
          · refine Ops.gu rfl rfl rfl (Dtu.mv (lk rfl)) rfl ?_
            refine Ops.gu rfl rfl rfl (Dtu.neq (lk rfl) (lk rfl)) rfl ?_
            refine Ops.u (Dtu.pickF (lk rfl) (lk rfl)) rfl ?_
            refine Ops.u (Dtu.mv (lk rfl)) rfl ?_
            refine Ops.decP 98 rfl (fun _ => ?_) (fun hn => absurd (by first | omega | assumption | decide) hn)
            refine Ops.gn rfl rfl rfl rfl rfl ?_
            refine Ops.gn rfl rfl rfl rfl rfl ?_
            refine Ops.gn rfl rfl rfl rfl rfl ?_
            refine Ops.gn rfl rfl rfl rfl rfl ?_
            refine Ops.u (Dtu.pickT (lk rfl) (lk rfl)) rfl ?_
            refine Ops.nil ?_
            refine Then.next ?_
            refine Body.condT (lk rfl) ?_
            refine Body.seq ?_
            refine Body.region ?_
            refine Ops.u (Dtu.build ty24 pl24 (lkp rfl) rfl rfl) rfl ?_
            refine Ops.e (Stp.store 2 Try.sizeOf24 (lk rfl) (lk rfl) rfl rfl rfl rfl rfl rfl rfl ?_)
            refine Ops.u (Dtu.asg (lk rfl)) rfl ?_
            refine Ops.nil ?_
            refine Then.next ?_
            refine Body.ret ?_
            refine Then.ret ?_
            refine ⟨.inr rfl, _, Loads.agg Try.isAgg24 Try.sizeOf24 (Rds.ow (m := 6) 2 rfl rfl) rfl, _, pk [] rfl, rfl, rfl⟩
        | true =>
          have hbt := View.bytes_byt hk (by rw [hcs]; exact hfl)
          refine Ops.s (Stp.call rfl Try.call28 (lks rfl) (fun E' le hat => hval ▸ write_ok E' V (.slice oa om oc) (by subst hv; exact Sl.at (hat _ (.head _))) hk) ?_) rfl
          rintro _ _ ⟨s87, rfl, rfl⟩
          refine Ops.u (Dtu.mv (lk rfl)) rfl ?_
          refine Ops.u (Dtu.ext (lk rfl) rfl) rfl ?_
          refine Ops.u (Dtu.ext (lk rfl) rfl) rfl ?_
          refine Ops.u (Dtu.asg (lk rfl)) rfl ?_
          refine Ops.u (Dtu.asg (lk rfl)) rfl ?_
          refine Ops.nil ?_
          refine Then.next ?_
          refine Body.seq ?_
          refine Body.region ?_
          refine Ops.u (Dtu.mv (lk rfl)) rfl ?_
          refine Ops.u (Dtu.mv (lk rfl)) rfl ?_
          refine Ops.u (Dtu.lenS Try.underlying32 (Sl.up h) (lk rfl)) rfl ?_
          refine Ops.u (Dtu.neq (lk rfl) (lk rfl)) rfl ?_
          refine Ops.u (Dtu.mv (lk rfl)) rfl ?_
          refine Ops.decP 94 rfl (fun c94 => ?_) (fun c94 => ?_)
          · refine Ops.gn rfl rfl rfl rfl rfl ?_
            refine Ops.gn rfl rfl rfl rfl rfl ?_
            refine Ops.u (Dtu.pickT (lk rfl) (lk rfl)) rfl ?_
            refine Ops.u (Dtu.mv (lk rfl)) rfl ?_
            refine Ops.gn rfl rfl rfl rfl rfl ?_
            refine Ops.gn rfl rfl rfl rfl rfl ?_
            refine Ops.gn rfl rfl rfl rfl rfl ?_
            refine Ops.gn rfl rfl rfl rfl rfl ?_
            refine Ops.u (Dtu.pickT (lk rfl) (lk rfl)) rfl ?_
            refine Ops.nil ?_
            refine Then.next ?_
            refine Body.condT (lk rfl) ?_
            refine Body.seq ?_
            refine Body.region ?_
            refine Ops.u (Dtu.build ty24 pl24 (lkp rfl) rfl rfl) rfl ?_
            refine Ops.e (Stp.store 3 Try.sizeOf24 (lk rfl) (lk rfl) rfl rfl rfl rfl rfl rfl rfl ?_)
            refine Ops.u (Dtu.asg (lk rfl)) rfl ?_
            refine Ops.nil ?_
            refine Then.next ?_
            refine Body.ret ?_
            refine Then.ret ?_
            rw [show readV bs = none by rw [hR, if_neg (fun h => c94 h.1)]]
            refine ⟨.inr rfl, _, Loads.agg Try.isAgg24 Try.sizeOf24 (Rds.ow (m := 6) 3 rfl rfl) rfl, _, pk [] rfl, rfl, rfl⟩
          · refine Ops.gu rfl rfl rfl (Dtu.mv (lk rfl)) rfl ?_
            refine Ops.gu rfl rfl rfl (Dtu.neq (lk rfl) (lk rfl)) rfl ?_
            refine Ops.u (Dtu.pickF (lk rfl) (lk rfl)) rfl ?_
            refine Ops.u (Dtu.mv (lk rfl)) rfl ?_
            refine Ops.decP 98 rfl (fun hy => absurd hy (by first | omega | assumption | decide)) (fun _ => ?_)
            refine Ops.gu rfl rfl rfl (Dtu.mv (lk rfl)) rfl ?_
            refine Ops.gu rfl rfl rfl (Dtu.mv (lk rfl)) rfl ?_
            refine Ops.gs rfl rfl rfl (Stp.call rfl Try.call65 (lks rfl) (fun E' le hat => bytesEqual_ok E' _ _ _ _ (by first | exact Sl.mono (by assumption) le | exact Sl.at (hat _ (.head _)) | exact Sl.at (hat _ (.tail _ (.head _))) | exact Sl.at (hat _ (.tail _ (.tail _ (.head _)))) | exact Sl.at (hat _ (.tail _ (.tail _ (.tail _ (.head _))))) | exact Sl.at (hat _ (.tail _ (.tail _ (.tail _ (.tail _ (.head _)))))) | exact Sl.at (hat _ (.tail _ (.tail _ (.tail _ (.tail _ (.tail _ (.head _)))))))) (by first | exact Sl.mono (by assumption) le | exact Sl.at (hat _ (.head _)) | exact Sl.at (hat _ (.tail _ (.head _))) | exact Sl.at (hat _ (.tail _ (.tail _ (.head _)))) | exact Sl.at (hat _ (.tail _ (.tail _ (.tail _ (.head _))))) | exact Sl.at (hat _ (.tail _ (.tail _ (.tail _ (.tail _ (.head _)))))) | exact Sl.at (hat _ (.tail _ (.tail _ (.tail _ (.tail _ (.tail _ (.head _)))))))) (by assumption) (by assumption)) ?_) rfl
            rintro _ _ ⟨rfl, rfl⟩
            refine Ops.gu rfl rfl rfl (Dtu.notP (lk rfl)) rfl ?_
            refine Ops.u (Dtu.pickF (lk rfl) (lk rfl)) rfl ?_
            refine Ops.nil ?_
            refine Then.next ?_
            refine Body.condP (lk rfl) (fun c103 => ?_) (fun c103 => ?_)
            · refine Body.seq ?_
              refine Body.region ?_
              refine Ops.u (Dtu.build ty24 pl24 (lkp rfl) rfl rfl) rfl ?_
              refine Ops.e (Stp.store 3 Try.sizeOf24 (lk rfl) (lk rfl) rfl rfl rfl rfl rfl rfl rfl ?_)
              refine Ops.u (Dtu.asg (lk rfl)) rfl ?_
              refine Ops.nil ?_
              refine Then.next ?_
              refine Body.ret ?_
              refine Then.ret ?_
              rw [show readV bs = none by rw [hR, if_neg (fun h => by simp [h.2.2] at c103)]]
              refine ⟨.inr rfl, _, Loads.agg Try.isAgg24 Try.sizeOf24 (Rds.ow (m := 6) 3 rfl rfl) rfl, _, pk [] rfl, rfl, rfl⟩
            · refine Body.skip ?_
              refine Then.next ?_
              refine Body.seq ?_
              refine Body.region ?_
              refine Ops.d (Det.lda Try.isAgg24 Try.sizeOf24 (lk rfl) (Rds.ow (m := 6) 2 rfl rfl) rfl) rfl ?_
              refine Ops.e (Stp.store 3 Try.sizeOf24 (lk rfl) (lk rfl) rfl rfl rfl rfl rfl rfl rfl ?_)
              refine Ops.u (Dtu.asg (lk rfl)) rfl ?_
              refine Ops.nil ?_
              refine Then.next ?_
              refine Body.ret ?_
              rw [show readV bs = some V by rw [hR, if_pos ⟨by omega, hk, by simpa using c103⟩]]
              refine ⟨.inr rfl, _, Loads.agg Try.isAgg24 Try.sizeOf24 (Rds.ow (m := 6) 3 rfl rfl) rfl, _, pk [1] rfl, .slice oa om oc, ?_, ?_⟩
              · rw [hval]; rfl
              · rw [hcs]
end Go.Proofs.Ytijjjdljdjnbaaa
