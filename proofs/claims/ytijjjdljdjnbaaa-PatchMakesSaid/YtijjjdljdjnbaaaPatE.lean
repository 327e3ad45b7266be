/- Patches: the runs that bytes have. -/
import Derived.Test.YtijjjdljdjnbaaaPatD
import Derived.Test.YtijjjdljdjnbaaaSxB
namespace Go.Proofs.Ytijjjdljdjnbaaa
set_option maxRecDepth 100000
set_option linter.unusedVariables false
set_option linter.unusedSimpArgs false
open Go.Sx

abbrev Run := Int × List Cell
/-- so many cells, from a place on -/
def readN (bs : List Int) : Nat → List Cell → Int → Option (List Cell × Int)
  | 0, cs, a => some (cs, a)
  | k + 1, cs, a => if (cellR bs a).2.2 ≠ 0 then none else readN bs k (cs ++ [(cellR bs a).1]) (cellR bs a).2.1
/-- the runs from a place on -/
def readRs (bs : List Int) : Nat → List Run → Int → Option (List Run)
  | 0, _, _ => none
  | k + 1, rs, a =>
    if a < bs.length then
      if (getS bs a).2.2 ≠ 0 then none
      else if (getS bs (getS bs a).2.1).2.2 ≠ 0 ∨ (getS bs (getS bs a).2.1).1 = 0 then none
      else match readN bs (getS bs (getS bs a).2.1).1.toNat [] (getS bs (getS bs a).2.1).2.1 with
        | none => none
        | some (cs, a') => readRs bs k (rs ++ [(min (getS bs a).1 24000, cs)]) a'
    else some rs
/-- the runs that bytes have -/
def runsP (bs : List Int) : Option (List Run) := if bs.length < 5 then none else readRs bs (bs.length + 1) [] 5
structure RunV where
  k : Int
  a : Option Addr
  m : Nat
  c : Nat
  cells : List Cell
  deriving Inhabited
def RunV.enc (r : RunV) : List Value := [.int .i64 r.k, .slice r.a r.m r.c]
def RunV.own (r : RunV) : HProp := osl 55 4 (.slice r.a r.m r.c) r.cells.length (r.cells.flatMap Cell.enc)
def RunV.val (r : RunV) : Run := (r.k, r.cells)
set_option maxHeartbeats 3200000 in
theorem runs_ok (E : Env) (b : Value) (bs : List Int) (h : Sl E [] 1 b bs.length (bs.map (.int .u8))) (hb : Byt bs) (hmax : bs.length ≤ 100000) : Does Try.prog 64 #[b] E [] fun r H' =>
    match runsP bs with
    | some rs => ∃ (z1 : Option Addr) (z2 z3 : Nat) (L : List RunV), r = .tuple #[.slice z1 z2 z3, .bool true] ∧ H' = [osl 115 2 (.slice z1 z2 z3) L.length (L.flatMap RunV.enc), many (L.map RunV.own)] ∧ L.map RunV.val = rs
    | none => r = .tuple #[.slice none 0 0, .bool false] ∧ H' = [] := by
  refine Does.pure h.len fun hlen => ?_
  refine Does.go (args := [b]) _ _ Try.func64 rfl Try.ntmps64 rfl rfl ?_
  by_cases h5 : bs.length < 5
  · have hn : runsP bs = none := by unfold runsP; rw [if_pos h5]
    rw [hn]
    refine Body.seq ?_
    refine Body.region ?_
    refine Ops.u (Dtu.asg (lk rfl)) rfl ?_
    refine Ops.u (Dtu.asg (lk rfl)) rfl ?_
    refine Ops.nil ?_
    refine Then.next ?_
    refine Body.seq ?_
    refine Body.region ?_
    refine Ops.u (Dtu.asg (lk rfl)) rfl ?_
    refine Ops.nil ?_
    refine Then.next ?_
    refine Body.seq ?_
    refine Body.region ?_
    refine Ops.u (Dtu.asg (lk rfl)) rfl ?_
    refine Ops.nil ?_
    refine Then.next ?_
    refine Body.seq ?_
    refine Body.block ?_
    refine Body.loopF (γ := Unit) rfl (fun _ => [(5, .int .i64 5), (4, .slice none 0 0)]) (fun _ => []) (fun _ => True) (fun _ => 0) () trivial ⟨rfl, rfl, trivial⟩ rfl ?_
    rintro _ u _
    refine Body.seq ?_
    refine Body.seq ?_
    refine Body.region ?_
    refine Ops.u (Dtu.mv (lk rfl)) rfl ?_
    refine Ops.u (Dtu.mv (lk rfl)) rfl ?_
    refine Ops.u (Dtu.lenS Try.underlying32 (Sl.up h) (lk rfl)) rfl ?_
    refine Ops.u (Dtu.lss (lk rfl) (lk rfl)) rfl ?_
    refine Ops.nil ?_
    refine Then.next ?_
    refine Body.condP (lk rfl) (fun hy => absurd hy (by first | omega | assumption | decide)) (fun _ => ?_)
    refine Body.exit ?_
    refine Then.exit ?_
    refine Round.exit ?_
    refine Blk.here ?_
    refine Then.next ?_
    refine Body.seq ?_
    refine Body.region ?_
    refine Ops.u (Dtu.mv (lk rfl)) rfl ?_
    refine Ops.u (Dtu.mv (lk rfl)) rfl ?_
    refine Ops.u (Dtu.lenS Try.underlying32 (Sl.up h) (lk rfl)) rfl ?_
    refine Ops.u (Dtu.geq (lk rfl) (lk rfl)) rfl ?_
    refine Ops.u (Dtu.asg (lk rfl)) rfl ?_
    refine Ops.u (Dtu.asg (lk rfl)) rfl ?_
    refine Ops.nil ?_
    refine Then.next ?_
    refine Body.ret ?_
    exact ⟨.inr rfl, _, pk [] rfl, by show Value.tuple #[_, .bool (decide (5 ≤ (bs.length : Int)))] = _; rw [decide_eq_false (by omega)]; rfl, rfl⟩
  · have hr0 : runsP bs = readRs bs (bs.length + 1) [] 5 := by unfold runsP; rw [if_neg h5]
    refine Body.seq ?_
    refine Body.region ?_
    refine Ops.u (Dtu.asg (lk rfl)) rfl ?_
    refine Ops.u (Dtu.asg (lk rfl)) rfl ?_
    refine Ops.nil ?_
    refine Then.next ?_
    refine Body.seq ?_
    refine Body.region ?_
    refine Ops.u (Dtu.asg (lk rfl)) rfl ?_
    refine Ops.nil ?_
    refine Then.next ?_
    refine Body.seq ?_
    refine Body.region ?_
    refine Ops.u (Dtu.asg (lk rfl)) rfl ?_
    refine Ops.nil ?_
    refine Then.next ?_
    refine Body.seq ?_
    refine Body.block ?_
    refine Body.conseq (H' := [osl 115 2 (.slice none 0 0) 0 [], many []]) (fun w s => osl_nil (many_nil s)) ?_
    refine Body.loopF (γ := Nat × List RunV × Int × Value) rfl (fun g => [(5, .int .i64 g.2.2.1), (4, g.2.2.2)]) (fun g => [osl 115 2 g.2.2.2 g.2.1.length (g.2.1.flatMap RunV.enc), many (g.2.1.map RunV.own)])
      (fun g => readRs bs g.1 (g.2.1.map RunV.val) g.2.2.1 = runsP bs ∧ 5 ≤ g.2.2.1 ∧ g.2.2.1 ≤ bs.length ∧ (bs.length : Int) - g.2.2.1 < g.1 ∧ (g.2.1.length : Int) ≤ g.2.2.1) (fun g => g.1) (bs.length + 1, [], 5, .slice none 0 0) ⟨hr0.symm, by simp, by simp; omega, by simp; omega, by simp⟩ ⟨rfl, rfl, trivial⟩ rfl ?_
    rintro ⟨k, L, a, O⟩ u ⟨hr, ha0, ha1, hk, hn⟩
    dsimp only at hr ha0 ha1 hk hn ⊢
    refine Body.pure (Sl.isSl (Sl.osl 0 rfl)) fun hO => ?_
    obtain ⟨z1, z2, z3, rfl⟩ := hO
    obtain ⟨k, rfl⟩ : ∃ k', k = k' + 1 := ⟨k - 1, by omega⟩
    have g1 := getS_bound bs hb a
    have g2 := getS_next bs a
    have g3 := getS_bound bs hb (getS bs a).2.1
    have g4 := getS_next bs (getS bs a).2.1
    rw [readRs] at hr
    refine Body.seq ?_
    refine Body.seq ?_
    refine Body.region ?_
    refine Ops.u (Dtu.mv (lk rfl)) rfl ?_
    refine Ops.u (Dtu.mv (lk rfl)) rfl ?_
    refine Ops.u (Dtu.lenS Try.underlying32 (Sl.up h) (lk rfl)) rfl ?_
    refine Ops.u (Dtu.lss (lk rfl) (lk rfl)) rfl ?_
    refine Ops.nil ?_
    refine Then.next ?_
    refine Body.condP (lk rfl) (fun c17 => ?_) (fun c17 => ?_)
    · rw [if_pos (by omega)] at hr
      refine Body.skip ?_
      refine Then.next ?_
      refine Body.block ?_
      refine Body.seq ?_
      refine Body.region ?_
      refine Ops.u (Dtu.mv (lk rfl)) rfl ?_
      refine Ops.u (Dtu.mv (lk rfl)) rfl ?_
      refine Ops.s (Stp.call rfl Try.call74 (lks rfl) (fun E' le hat => get_ok E' _ _ _ (Sl.mono (by assumption) le) (by assumption)) ?_) rfl
      rintro _ _ ⟨rfl, rfl⟩
      refine Ops.u (Dtu.mv (lk rfl)) rfl ?_
      refine Ops.u (Dtu.ext (lk rfl) rfl) rfl ?_
      refine Ops.u (Dtu.ext (lk rfl) rfl) rfl ?_
      refine Ops.u (Dtu.ext (lk rfl) rfl) rfl ?_
      refine Ops.u (Dtu.asg (lk rfl)) rfl ?_
      refine Ops.u (Dtu.asg (lk rfl)) rfl ?_
      refine Ops.u (Dtu.asg (lk rfl)) rfl ?_
      refine Ops.nil ?_
      refine Then.next ?_
      refine Body.seq ?_
      refine Body.seq ?_
      refine Body.region ?_
      refine Ops.u (Dtu.mv (lk rfl)) rfl ?_
      refine Ops.u (Dtu.neq (lk rfl) (lk rfl)) rfl ?_
      refine Ops.nil ?_
      refine Then.next ?_
      refine Body.condP (lk rfl) (fun c26 => ?_) (fun c26 => ?_)
      · rw [if_pos (by assumption)] at hr
        refine Body.seq ?_
        refine Body.region ?_
        refine Ops.u (Dtu.asg (lk rfl)) rfl ?_
        refine Ops.u (Dtu.asg (lk rfl)) rfl ?_
        refine Ops.nil ?_
        refine Then.next ?_
        refine Body.ret ?_
        refine Then.ret ?_
        refine Blk.ret ?_
        refine Round.ret ?_
        refine Blk.ret ?_
        refine Then.ret ?_
        rw [← hr]
        exact ⟨.inr rfl, _, pk [] rfl, rfl, rfl⟩
      · rw [if_neg (by assumption)] at hr
        refine Body.skip ?_
        refine Then.next ?_
        refine Body.seq ?_
        refine Body.region ?_
        refine Ops.u (Dtu.mv (lk rfl)) rfl ?_
        refine Ops.u (Dtu.mv (lk rfl)) rfl ?_
        refine Ops.s (Stp.call rfl Try.call74 (lks rfl) (fun E' le hat => get_ok E' _ _ _ (Sl.mono (by assumption) le) (by assumption)) ?_) rfl
        rintro _ _ ⟨rfl, rfl⟩
        refine Ops.u (Dtu.mv (lk rfl)) rfl ?_
        refine Ops.u (Dtu.ext (lk rfl) rfl) rfl ?_
        refine Ops.u (Dtu.ext (lk rfl) rfl) rfl ?_
        refine Ops.u (Dtu.ext (lk rfl) rfl) rfl ?_
        refine Ops.u (Dtu.asg (lk rfl)) rfl ?_
        refine Ops.u (Dtu.asg (lk rfl)) rfl ?_
        refine Ops.u (Dtu.asg (lk rfl)) rfl ?_
        refine Ops.nil ?_
        refine Then.next ?_
        refine Body.seq ?_
        refine Body.seq ?_
        refine Body.region ?_
        refine Ops.u (Dtu.mv (lk rfl)) rfl ?_
        refine Ops.u (Dtu.neq (lk rfl) (lk rfl)) rfl ?_
        refine Ops.u (Dtu.mv (lk rfl)) rfl ?_
        refine Ops.decP 36 rfl (fun c36 => ?_) (fun c36 => ?_)
        · rw [if_pos (.inl (by assumption))] at hr
          refine Ops.gn rfl rfl rfl rfl rfl ?_
          refine Ops.gn rfl rfl rfl rfl rfl ?_
          refine Ops.u (Dtu.pickT (lk rfl) (lk rfl)) rfl ?_
          refine Ops.nil ?_
          refine Then.next ?_
          refine Body.condT (lk rfl) ?_
          refine Body.seq ?_
          refine Body.region ?_
          refine Ops.u (Dtu.asg (lk rfl)) rfl ?_
          refine Ops.u (Dtu.asg (lk rfl)) rfl ?_
          refine Ops.nil ?_
          refine Then.next ?_
          refine Body.ret ?_
          refine Then.ret ?_
          refine Blk.ret ?_
          refine Round.ret ?_
          refine Blk.ret ?_
          refine Then.ret ?_
          rw [← hr]
          exact ⟨.inr rfl, _, pk [] rfl, rfl, rfl⟩
        · refine Ops.gu rfl rfl rfl (Dtu.mv (lk rfl)) rfl ?_
          refine Ops.gu rfl rfl rfl (Dtu.eql (lk rfl) (lk rfl)) rfl ?_
          refine Ops.u (Dtu.pickF (lk rfl) (lk rfl)) rfl ?_
          refine Ops.nil ?_
          refine Then.next ?_
          refine Body.condP (lk rfl) (fun c39 => ?_) (fun c39 => ?_)
          · rw [if_pos (.inr (by assumption))] at hr
            refine Body.seq ?_
            refine Body.region ?_
            refine Ops.u (Dtu.asg (lk rfl)) rfl ?_
            refine Ops.u (Dtu.asg (lk rfl)) rfl ?_
            refine Ops.nil ?_
            refine Then.next ?_
            refine Body.ret ?_
            refine Then.ret ?_
            refine Blk.ret ?_
            refine Round.ret ?_
            refine Blk.ret ?_
            refine Then.ret ?_
            rw [← hr]
            exact ⟨.inr rfl, _, pk [] rfl, rfl, rfl⟩
          · rw [if_neg (by omega)] at hr
            have e1 := g2 (by omega)
            have e2 := g4 (by omega)
            obtain ⟨q, hq⟩ := Int.eq_ofNat_of_zero_le g3.1
            rw [hq, Int.toNat_natCast] at hr
            generalize hp0 : (getS bs (getS bs a).2.1).2.1 = p0 at *
            refine Body.skip ?_
            refine Then.next ?_
            refine Body.seq ?_
            refine Body.region ?_
            refine Ops.u (Dtu.mv (lk rfl)) rfl ?_
            refine Ops.u (Dtu.min (lk rfl) (lk rfl)) rfl ?_
            refine Ops.u (Dtu.cvt Try.underlying75 Try.underlying3 (lk rfl) (w64 (by omega) (by omega))) rfl ?_
            refine Ops.u (Dtu.build ty115 pl115 (lkp rfl) rfl rfl) rfl ?_
            refine Ops.s (Stp.alloc ty115 (fun b10 => ?_)) rfl
            refine Ops.e (Stp.store 0 Try.sizeOf115 (lk rfl) (lk rfl) rfl rfl rfl rfl rfl rfl rfl ?_)
            refine Ops.nil ?_
            refine Then.next ?_
            refine Body.seq ?_
            refine Body.seq ?_
            refine Body.region ?_
            refine Ops.u (Dtu.mv (lk rfl)) rfl ?_
            refine Ops.u (Dtu.mv (lk rfl)) rfl ?_
            refine Ops.u (Dtu.lenS Try.underlying32 (Sl.up h) (lk rfl)) rfl ?_
            refine Ops.u (Dtu.cvt Try.underlying3 Try.underlying75 (lk rfl) (wu64 (by omega) (by omega))) rfl ?_
            refine Ops.u (Dtu.min (lk rfl) (lk rfl)) rfl ?_
            refine Ops.u (Dtu.mv (lk rfl)) rfl ?_
            refine Ops.nil ?_
            refine Then.next ?_
            refine Body.block ?_
            refine Body.conseq (H' := [osl 55 4 (.slice none 0 0) 0 [], own b10 [.int .i64 (min (getS bs a).1 24000), .slice none 0 0] 115, osl 115 2 (.slice z1 z2 z3) L.length (L.flatMap RunV.enc), many (L.map RunV.own)]) (fun w s => osl_nil s) ?_
            refine Body.loopF (γ := List Cell × Int × (Option Addr × Nat × Nat)) rfl (fun g => [(49, .int .u64 g.1.length), (7, .int .i64 g.2.1)]) (fun g => [osl 55 4 (.slice g.2.2.1 g.2.2.2.1 g.2.2.2.2) g.1.length (g.1.flatMap Cell.enc), own b10 [.int .i64 (min (getS bs a).1 24000), .slice g.2.2.1 g.2.2.2.1 g.2.2.2.2] 115, osl 115 2 (.slice z1 z2 z3) L.length (L.flatMap RunV.enc), many (L.map RunV.own)])
              (fun g => readN bs (q - g.1.length) g.1 g.2.1 = readN bs q [] p0 ∧ (g.1.length : Int) ≤ min (q : Int) bs.length ∧ p0 + g.1.length ≤ g.2.1 ∧ g.2.1 ≤ bs.length) (fun g => q - g.1.length) ([], p0, (none, 0, 0)) ⟨by simp, by simp; omega, by simp, by dsimp only; omega⟩ ⟨rfl, rfl, trivial⟩ rfl ?_
            rintro ⟨cs, p, y1, y2, y3⟩ u2 ⟨hN, hj, hp1, hp2⟩
            dsimp only at hN hj hp1 hp2 ⊢
            have hcf := cellR_fl bs hb p
            have hcn := cellR_next bs p
            refine Body.seq ?_
            refine Body.region ?_
            refine Ops.u (Dtu.lss (lk rfl) (lk rfl)) rfl ?_
            refine Ops.nil ?_
            refine Then.next ?_
            refine Body.seq ?_
            refine Body.condP (lk rfl) (fun c50 => ?_) (fun c50 => ?_)
            · obtain ⟨d, hd⟩ : ∃ d, q - cs.length = d + 1 := ⟨q - cs.length - 1, by omega⟩
              rw [hd, readN] at hN
              refine Body.skip ?_
              refine Then.next ?_
              refine Body.seq ?_
              refine Body.block ?_
              refine Body.seq ?_
              refine Body.region ?_
              refine Ops.u (Dtu.mv (lk rfl)) rfl ?_
              refine Ops.u (Dtu.mv (lk rfl)) rfl ?_
              refine Ops.s (Stp.call rfl Try.call34 (lks rfl) (fun E' le hat => getCell_ok E' _ _ _ (Sl.mono (by assumption) le) (by assumption)) ?_) rfl
              rintro _ _ ⟨rfl, rfl⟩
              refine Ops.u (Dtu.mv (lk rfl)) rfl ?_
              refine Ops.u (Dtu.ext (lk rfl) rfl) rfl ?_
              refine Ops.u (Dtu.ext (lk rfl) rfl) rfl ?_
              refine Ops.u (Dtu.ext (lk rfl) rfl) rfl ?_
              refine Ops.s (Stp.alloc ty55 (fun b11 => ?_)) rfl
              refine Ops.e (Stp.store 0 Try.sizeOf55 (lk rfl) (lk rfl) rfl rfl rfl rfl rfl rfl rfl ?_)
              refine Ops.u (Dtu.asg (lk rfl)) rfl ?_
              refine Ops.u (Dtu.asg (lk rfl)) rfl ?_
              refine Ops.nil ?_
              refine Then.next ?_
              refine Body.seq ?_
              refine Body.seq ?_
              refine Body.region ?_
              refine Ops.u (Dtu.mv (lk rfl)) rfl ?_
              refine Ops.u (Dtu.neq (lk rfl) (lk rfl)) rfl ?_
              refine Ops.nil ?_
              refine Then.next ?_
              refine Body.condP (lk rfl) (fun c59 => ?_) (fun c59 => ?_)
              · rw [if_pos (by assumption)] at hN
                rw [← hN] at hr
                refine Body.seq ?_
                refine Body.region ?_
                refine Ops.u (Dtu.asg (lk rfl)) rfl ?_
                refine Ops.u (Dtu.asg (lk rfl)) rfl ?_
                refine Ops.nil ?_
                refine Then.next ?_
                refine Body.ret ?_
                refine Then.ret ?_
                refine Blk.ret ?_
                refine Then.ret ?_
                refine Round.ret ?_
                refine Blk.ret ?_
                refine Then.ret ?_
                refine Blk.ret ?_
                refine Round.ret ?_
                refine Blk.ret ?_
                refine Then.ret ?_
                rw [← hr]
                exact ⟨.inr rfl, _, pk [] rfl, rfl, rfl⟩
              · rw [if_neg (by assumption)] at hN
                have e3 := hcn (by omega)
                refine Body.skip ?_
                refine Then.next ?_
                refine Body.seq ?_
                refine Body.region ?_
                refine Ops.u (Dtu.fld fa115_1 (lk rfl)) rfl ?_
                refine Ops.d (Det.ld Try.isAgg22 (lk rfl) (Rd.ow 2 rfl rfl)) rfl ?_
                refine Ops.d (Det.lda Try.isAgg55 Try.sizeOf55 (lk rfl) (Rds.ow (m := 4) 0 rfl rfl) rfl) rfl ?_
                refine Ops.s (Stp.buildSliceO Try.underlying22 ty55 (by decide) (by decide) (lkp rfl) rfl rfl rfl (by decide) (fun v63 => ?_)) rfl
                refine Ops.s (Stp.append 2 Try.underlying22 ty55 rfl rfl (lk rfl) (lk rfl) (Sl.osl 0 rfl) (by first | rfl | exact all_map (fun _ => rfl) _ | exact all_flat (fun _ => rfl) _) (by omega) (by omega) (fun v64 => ?_)) rfl
                refine Ops.u (Dtu.fld fa115_1 (lk rfl)) rfl ?_
                refine Ops.pure (Sl.isSl (Sl.osl 2 rfl)) fun h64 => ?_
                obtain ⟨x1, x2, x3, rfl⟩ := h64
                refine Ops.e (Stp.store 3 Try.sizeOf22 (lk rfl) (lk rfl) rfl rfl rfl rfl rfl rfl rfl ?_)
                refine Ops.nil ?_
                refine Then.next ?_
                refine Body.region ?_
                refine Ops.u (Dtu.mv (lk rfl)) rfl ?_
                refine Ops.u (Dtu.asg (lk rfl)) rfl ?_
                refine Ops.nil ?_
                refine Blk.norm ?_
                refine Then.next ?_
                refine Body.region ?_
                refine Ops.u (Dtu.add (lk rfl) (lk rfl) (wu64 (by omega) (by omega))) rfl ?_
                refine Ops.u (Dtu.mv (lk rfl)) rfl ?_
                refine Ops.nil ?_
                refine Round.goK [2, 2, 2, 2] (cs ++ [(cellR bs p).1], (cellR bs p).2.1, (x1, x2, x3)) rfl rfl rfl ⟨int_eq (by simp), rfl, trivial⟩ rfl ?_ ⟨?_, by dsimp only; simp; omega, by dsimp only; simp; omega, by dsimp only; omega⟩ (by simp; omega)
                · simp [Cell.enc]
                · dsimp only
                  rw [← hN]; congr 1; simp; omega
            · have hjq : cs.length = q := by omega
              rw [show q - cs.length = 0 by omega, readN] at hN
              rw [← hN] at hr
              dsimp only at hr
              refine Body.exit ?_
              refine Then.exit ?_
              refine Round.exit ?_
              refine Blk.here ?_
              refine Then.next ?_
              refine Body.seq ?_
              refine Body.seq ?_
              refine Body.region ?_
              refine Ops.u (Dtu.fld fa115_1 (lk rfl)) rfl ?_
              refine Ops.d (Det.ld Try.isAgg22 (lk rfl) (Rd.ow 1 rfl rfl)) rfl ?_
              refine Ops.u (Dtu.lenS Try.underlying22 (Sl.osl 0 rfl) (lk rfl)) rfl ?_
              refine Ops.u (Dtu.cvt Try.underlying3 Try.underlying75 (lk rfl) (wu64 (by omega) (by omega))) rfl ?_
              refine Ops.u (Dtu.mv (lk rfl)) rfl ?_
              refine Ops.u (Dtu.lss (lk rfl) (lk rfl)) rfl ?_
              refine Ops.nil ?_
              refine Then.next ?_
              refine Body.condP (lk rfl) (fun hy => absurd hy (by first | omega | assumption | decide)) (fun _ => ?_)
              refine Body.skip ?_
              refine Then.next ?_
              refine Body.seq ?_
              refine Body.region ?_
              refine Ops.u (Dtu.mv (lk rfl)) rfl ?_
              refine Ops.d (Det.lda Try.isAgg115 Try.sizeOf115 (lk rfl) (Rds.ow (m := 2) 1 rfl rfl) rfl) rfl ?_
              refine Ops.s (Stp.buildSliceO Try.underlying111 ty115 (by decide) (by decide) (lkp rfl) rfl rfl rfl (by decide) (fun v76 => ?_)) rfl
              refine Ops.s (Stp.append 3 Try.underlying111 ty115 rfl rfl (lk rfl) (lk rfl) (Sl.osl 0 rfl) (by first | rfl | exact all_map (fun _ => rfl) _ | exact all_flat (fun _ => rfl) _) (by omega) (by omega) (fun v77 => ?_)) rfl
              refine Ops.u (Dtu.asg (lk rfl)) rfl ?_
              refine Ops.nil ?_
              refine Then.next ?_
              refine Body.region ?_
              refine Ops.u (Dtu.mv (lk rfl)) rfl ?_
              refine Ops.u (Dtu.asg (lk rfl)) rfl ?_
              refine Ops.nil ?_
              refine Blk.norm ?_
              refine Round.goW (k, L ++ [⟨min (getS bs a).1 24000, y1, y2, y3, cs⟩], p, v77) rfl rfl rfl ⟨rfl, rfl, trivial⟩ (fun w s => ?_) ⟨?_, by dsimp only; omega, by dsimp only; omega, by dsimp only; omega, by simp; omega⟩ (by simp)
              · have s1 := s.front [1, 3, 2] rfl
                have s2 := many_snoc s1
                have s3 := pk [1, 0] rfl w s2
                dsimp only
                simp only [List.length_append, List.length_cons, List.length_nil, List.flatMap_append, List.flatMap_cons, List.flatMap_nil, List.map_append, List.map_cons, List.map_nil, List.append_nil]
                exact s3
              · dsimp only
                rw [← hr]; simp [RunV.val]
    · rw [if_neg (by omega)] at hr
      refine Body.exit ?_
      refine Then.exit ?_
      refine Round.exit ?_
      refine Blk.here ?_
      refine Then.next ?_
      refine Body.seq ?_
      refine Body.region ?_
      refine Ops.u (Dtu.mv (lk rfl)) rfl ?_
      refine Ops.u (Dtu.mv (lk rfl)) rfl ?_
      refine Ops.u (Dtu.lenS Try.underlying32 (Sl.up h) (lk rfl)) rfl ?_
      refine Ops.u (Dtu.geq (lk rfl) (lk rfl)) rfl ?_
      refine Ops.u (Dtu.asg (lk rfl)) rfl ?_
      refine Ops.u (Dtu.asg (lk rfl)) rfl ?_
      refine Ops.nil ?_
      refine Then.next ?_
      refine Body.ret ?_
      rw [← hr]
      exact ⟨.inr rfl, _, pk [0, 0] rfl, z1, z2, z3, L, by show Value.tuple #[_, .bool (decide (5 ≤ (bs.length : Int)))] = _; rw [decide_eq_true (by omega)]; rfl, rfl, rfl⟩
/-- how many runs bytes have -/
def runsK (bs : List Int) : Int := match runsP bs with
  | some rs => rs.length
  | none => 0
def runsE (bs : List Int) : Int := match runsP bs with
  | some _ => 0
  | none => 3
theorem runsC_ok (E : Env) (b : Value) (bs : List Int) (h : Sl E [] 1 b bs.length (bs.map (.int .u8))) (hb : Byt bs) (hmax : bs.length ≤ 100000) : Does Try.prog 22 #[b] E [] fun r H' => r = .tuple #[.int .i64 (runsK bs), .int .i64 (runsE bs)] ∧ H' = [] := by
  refine Does.go (args := [b]) _ _ Try.func22 rfl Try.ntmps22 rfl rfl ?_
  have hR := fun (E' : Env) (le : Env.Le E E') => runs_ok E' b bs (Sl.mono h le) hb hmax
  cases hr : runsP bs with
  | none =>
    have e1 : runsK bs = 0 := by simp [runsK, hr]
    have e2 : runsE bs = 3 := by simp [runsE, hr]
    rw [e1, e2]
    rw [hr] at hR
    refine Body.seq ?_
    refine Body.region ?_
    refine Ops.u (Dtu.asg (lk rfl)) rfl ?_
    refine Ops.u (Dtu.asg (lk rfl)) rfl ?_
    refine Ops.nil ?_
    refine Then.next ?_
    refine Body.seq ?_
    refine Body.region ?_
    refine Ops.u (Dtu.mv (lk rfl)) rfl ?_
    refine Ops.s (Stp.call rfl Try.call64 (lks rfl) (fun E' le hat => hR E' le) ?_) rfl
    rintro _ _ ⟨rfl, rfl⟩
    refine Ops.u (Dtu.mv (lk rfl)) rfl ?_
    refine Ops.u (Dtu.ext (lk rfl) rfl) rfl ?_
    refine Ops.u (Dtu.ext (lk rfl) rfl) rfl ?_
    refine Ops.u (Dtu.asg (lk rfl)) rfl ?_
    refine Ops.u (Dtu.asg (lk rfl)) rfl ?_
    refine Ops.nil ?_
    refine Then.next ?_
    refine Body.seq ?_
    refine Body.seq ?_
    refine Body.region ?_
    refine Ops.u (Dtu.mv (lk rfl)) rfl ?_
    refine Ops.u (Dtu.not (lk rfl)) rfl ?_
    refine Ops.nil ?_
    refine Then.next ?_
    refine Body.condT (lk rfl) ?_
    refine Body.seq ?_
    refine Body.region ?_
    refine Ops.u (Dtu.asg (lk rfl)) rfl ?_
    refine Ops.u (Dtu.asg (lk rfl)) rfl ?_
    refine Ops.nil ?_
    refine Then.next ?_
    refine Body.ret ?_
    refine Then.ret ?_
    exact ⟨.inr rfl, _, pk [] rfl, rfl, rfl⟩
  | some rs =>
    have e2 : runsE bs = 0 := by simp [runsE, hr]
    have e1 : runsK bs = rs.length := by simp [runsK, hr]
    rw [e1, e2]
    rw [hr] at hR
    refine Body.seq ?_
    refine Body.region ?_
    refine Ops.u (Dtu.asg (lk rfl)) rfl ?_
    refine Ops.u (Dtu.asg (lk rfl)) rfl ?_
    refine Ops.nil ?_
    refine Then.next ?_
    refine Body.seq ?_
    refine Body.region ?_
    refine Ops.u (Dtu.mv (lk rfl)) rfl ?_
    refine Ops.s (Stp.call rfl Try.call64 (lks rfl) (fun E' le hat => hR E' le) ?_) rfl
    rintro _ _ ⟨z1, z2, z3, L, rfl, rfl, hL⟩
    refine Ops.u (Dtu.mv (lk rfl)) rfl ?_
    refine Ops.u (Dtu.ext (lk rfl) rfl) rfl ?_
    refine Ops.u (Dtu.ext (lk rfl) rfl) rfl ?_
    refine Ops.u (Dtu.asg (lk rfl)) rfl ?_
    refine Ops.u (Dtu.asg (lk rfl)) rfl ?_
    refine Ops.nil ?_
    refine Then.next ?_
    refine Body.seq ?_
    refine Body.seq ?_
    refine Body.region ?_
    refine Ops.u (Dtu.mv (lk rfl)) rfl ?_
    refine Ops.u (Dtu.not (lk rfl)) rfl ?_
    refine Ops.nil ?_
    refine Then.next ?_
    refine Body.condF (lk rfl) ?_
    refine Body.skip ?_
    refine Then.next ?_
    refine Body.seq ?_
    refine Body.region ?_
    refine Ops.u (Dtu.mv (lk rfl)) rfl ?_
    refine Ops.u (Dtu.lenS Try.underlying111 (Sl.osl 0 rfl) (lk rfl)) rfl ?_
    refine Ops.u (Dtu.asg (lk rfl)) rfl ?_
    refine Ops.u (Dtu.asg (lk rfl)) rfl ?_
    refine Ops.nil ?_
    refine Then.next ?_
    refine Body.ret ?_
    have hl : rs.length = L.length := by rw [← hL]; simp
    exact ⟨.inr rfl, _, pk [] rfl, by rw [hl]; rfl, rfl⟩
end Go.Proofs.Ytijjjdljdjnbaaa
