/- QNvb: PatE, PatF, PatG, PatH, PatI, PatJ, RegA, RegB, RegC, RegD, RegE, RegF, RegG, RegH, RegI, SynA, SynB. -/
import Derived.Lib.LazyBuf
import Derived.Test.YtagcpamchgpgiaaRva
import Derived.Test.YtagcpamchgpgiaaRvb
import Derived.Test.YtagcpamchgpgiaaRvc
section
/- Patches: the runs that bytes have. -/
namespace Go.Proofs.Ytagcpamchgpgiaa
set_option maxRecDepth 100000
set_option linter.unusedVariables false
set_option linter.unusedSimpArgs false
open Go.Sx

abbrev Run := Int × List Cell
/-- so many cells, from a place on -/
def readN (bs : List Int) : Nat → List Cell → Int → Option (List Cell × Int)
  | 0, cs, a => some (cs, a)
  | k + 1, cs, a => if (cellR bs a).2.2 ≠ 0 then none else readN bs k (cs ++ [(cellR bs a).1]) (cellR bs a).2.1
/-- the runs from a place on -/
def readRs (bs : List Int) : Nat → List Run → Int → Option (List Run)
  | 0, _, _ => none
  | k + 1, rs, a =>
    if a < bs.length then
      if (getS bs a).2.2 ≠ 0 then none
      else if (getS bs (getS bs a).2.1).2.2 ≠ 0 ∨ (getS bs (getS bs a).2.1).1 = 0 then none
      else match readN bs (getS bs (getS bs a).2.1).1.toNat [] (getS bs (getS bs a).2.1).2.1 with
        | none => none
        | some (cs, a') => readRs bs k (rs ++ [(min (getS bs a).1 24000, cs)]) a'
    else some rs
/-- the runs that bytes have -/
def runsP (bs : List Int) : Option (List Run) := if bs.length < 5 then none else readRs bs (bs.length + 1) [] 5
structure RunV where
  k : Int
  a : Option Addr
  m : Nat
  c : Nat
  cells : List Cell
  deriving Inhabited
def RunV.enc (r : RunV) : List Value := [.int .i64 r.k, .slice r.a r.m r.c]
def RunV.own (r : RunV) : HProp := osl 127 4 (.slice r.a r.m r.c) r.cells.length (r.cells.flatMap Cell.enc)
def RunV.val (r : RunV) : Run := (r.k, r.cells)
set_option maxHeartbeats 3200000 in
theorem runs_ok (E : Env) (b : Value) (bs : List Int) (h : Sl E [] 1 b bs.length (bs.map (.int .u8))) (hb : Byt bs) (hmax : bs.length ≤ 100000) : Does Try.prog 101 #[b] E [] fun r H' =>
    match runsP bs with
    | some rs => ∃ (z1 : Option Addr) (z2 z3 : Nat) (L : List RunV), r = .tuple #[.slice z1 z2 z3, .bool true] ∧ H' = [osl 169 2 (.slice z1 z2 z3) L.length (L.flatMap RunV.enc), many (L.map RunV.own)] ∧ L.map RunV.val = rs
    | none => r = .tuple #[.slice none 0 0, .bool false] ∧ H' = [] := by
  refine Does.pure h.len fun hlen => ?_
  refine Does.go (args := [b]) _ _ Try.func101 rfl Try.ntmps101 rfl rfl ?_
  by_cases h5 : bs.length < 5
  · have hn : runsP bs = none := by unfold runsP; rw [if_pos h5]
    rw [hn]
    refine Body.seq ?_
    refine Body.region ?_
    refine Ops.u (Dtu.asg (lk rfl)) rfl ?_
    refine Ops.u (Dtu.asg (lk rfl)) rfl ?_
    refine Ops.nil ?_
    refine Then.next ?_
    refine Body.seq ?_
    refine Body.region ?_
    refine Ops.u (Dtu.asg (lk rfl)) rfl ?_
    refine Ops.nil ?_
    refine Then.next ?_
    refine Body.seq ?_
    refine Body.region ?_
    refine Ops.u (Dtu.asg (lk rfl)) rfl ?_
    refine Ops.nil ?_
    refine Then.next ?_
    refine Body.seq ?_
    refine Body.block ?_
    refine Body.loopF (γ := Unit) rfl (fun _ => [(5, .int .i64 5), (4, .slice none 0 0)]) (fun _ => []) (fun _ => True) (fun _ => 0) () trivial ⟨rfl, rfl, trivial⟩ rfl ?_
    rintro _ u _
    refine Body.seq ?_
    refine Body.seq ?_
    refine Body.region ?_
    refine Ops.u (Dtu.mv (lk rfl)) rfl ?_
    refine Ops.u (Dtu.mv (lk rfl)) rfl ?_
    refine Ops.u (Dtu.lenS Try.underlying23 (Sl.up h) (lk rfl)) rfl ?_
    refine Ops.u (Dtu.lss (lk rfl) (lk rfl)) rfl ?_
    refine Ops.nil ?_
    refine Then.next ?_
    refine Body.condP (lk rfl) (fun hy => absurd hy (by first | omega | assumption | decide)) (fun _ => ?_)
    refine Body.exit ?_
    refine Then.exit ?_
    refine Round.exit ?_
    refine Blk.here ?_
    refine Then.next ?_
    refine Body.seq ?_
    refine Body.region ?_
    refine Ops.u (Dtu.mv (lk rfl)) rfl ?_
    refine Ops.u (Dtu.mv (lk rfl)) rfl ?_
    refine Ops.u (Dtu.lenS Try.underlying23 (Sl.up h) (lk rfl)) rfl ?_
    refine Ops.u (Dtu.geq (lk rfl) (lk rfl)) rfl ?_
    refine Ops.u (Dtu.asg (lk rfl)) rfl ?_
    refine Ops.u (Dtu.asg (lk rfl)) rfl ?_
    refine Ops.nil ?_
    refine Then.next ?_
    refine Body.ret ?_
    exact ⟨.inr rfl, _, pk [] rfl, by show Value.tuple #[_, .bool (decide (5 ≤ (bs.length : Int)))] = _; rw [decide_eq_false (by omega)]; rfl, rfl⟩
  · have hr0 : runsP bs = readRs bs (bs.length + 1) [] 5 := by unfold runsP; rw [if_neg h5]
    refine Body.seq ?_
    refine Body.region ?_
    refine Ops.u (Dtu.asg (lk rfl)) rfl ?_
    refine Ops.u (Dtu.asg (lk rfl)) rfl ?_
    refine Ops.nil ?_
    refine Then.next ?_
    refine Body.seq ?_
    refine Body.region ?_
    refine Ops.u (Dtu.asg (lk rfl)) rfl ?_
    refine Ops.nil ?_
    refine Then.next ?_
    refine Body.seq ?_
    refine Body.region ?_
    refine Ops.u (Dtu.asg (lk rfl)) rfl ?_
    refine Ops.nil ?_
    refine Then.next ?_
    refine Body.seq ?_
    refine Body.block ?_
    refine Body.conseq (H' := [osl 169 2 (.slice none 0 0) 0 [], many []]) (fun w s => osl_nil (many_nil s)) ?_
    refine Body.loopF (γ := Nat × List RunV × Int × Value) rfl (fun g => [(5, .int .i64 g.2.2.1), (4, g.2.2.2)]) (fun g => [osl 169 2 g.2.2.2 g.2.1.length (g.2.1.flatMap RunV.enc), many (g.2.1.map RunV.own)])
      (fun g => readRs bs g.1 (g.2.1.map RunV.val) g.2.2.1 = runsP bs ∧ 5 ≤ g.2.2.1 ∧ g.2.2.1 ≤ bs.length ∧ (bs.length : Int) - g.2.2.1 < g.1 ∧ (g.2.1.length : Int) ≤ g.2.2.1) (fun g => g.1) (bs.length + 1, [], 5, .slice none 0 0) ⟨hr0.symm, by simp, by simp; omega, by simp; omega, by simp⟩ ⟨rfl, rfl, trivial⟩ rfl ?_
    rintro ⟨k, L, a, O⟩ u ⟨hr, ha0, ha1, hk, hn⟩
    dsimp only at hr ha0 ha1 hk hn ⊢
    refine Body.pure (Sl.isSl (Sl.osl 0 rfl)) fun hO => ?_
    obtain ⟨z1, z2, z3, rfl⟩ := hO
    obtain ⟨k, rfl⟩ : ∃ k', k = k' + 1 := ⟨k - 1, by omega⟩
    have g1 := getS_bound bs hb a
    have g2 := getS_next bs a
    have g3 := getS_bound bs hb (getS bs a).2.1
    have g4 := getS_next bs (getS bs a).2.1
    rw [readRs] at hr
    refine Body.seq ?_
    refine Body.seq ?_
    refine Body.region ?_
    refine Ops.u (Dtu.mv (lk rfl)) rfl ?_
    refine Ops.u (Dtu.mv (lk rfl)) rfl ?_
    refine Ops.u (Dtu.lenS Try.underlying23 (Sl.up h) (lk rfl)) rfl ?_
    refine Ops.u (Dtu.lss (lk rfl) (lk rfl)) rfl ?_
    refine Ops.nil ?_
    refine Then.next ?_
    refine Body.condP (lk rfl) (fun c17 => ?_) (fun c17 => ?_)
    · rw [if_pos (by omega)] at hr
      refine Body.skip ?_
      refine Then.next ?_
      refine Body.block ?_
      refine Body.seq ?_
      refine Body.region ?_
      refine Ops.u (Dtu.mv (lk rfl)) rfl ?_
      refine Ops.u (Dtu.mv (lk rfl)) rfl ?_
      refine Ops.s (Stp.call rfl Try.call77 (lks rfl) (fun E' le hat => get_ok E' _ _ _ (Sl.mono (by assumption) le) (by assumption)) ?_) rfl
      rintro _ _ ⟨rfl, rfl⟩
      refine Ops.u (Dtu.mv (lk rfl)) rfl ?_
      refine Ops.u (Dtu.ext (lk rfl) rfl) rfl ?_
      refine Ops.u (Dtu.ext (lk rfl) rfl) rfl ?_
      refine Ops.u (Dtu.ext (lk rfl) rfl) rfl ?_
      refine Ops.u (Dtu.asg (lk rfl)) rfl ?_
      refine Ops.u (Dtu.asg (lk rfl)) rfl ?_
      refine Ops.u (Dtu.asg (lk rfl)) rfl ?_
      refine Ops.nil ?_
      refine Then.next ?_
      refine Body.seq ?_
      refine Body.seq ?_
      refine Body.region ?_
      refine Ops.u (Dtu.mv (lk rfl)) rfl ?_
      refine Ops.u (Dtu.neq (lk rfl) (lk rfl)) rfl ?_
      refine Ops.nil ?_
      refine Then.next ?_
      refine Body.condP (lk rfl) (fun c26 => ?_) (fun c26 => ?_)
      · rw [if_pos (by assumption)] at hr
        refine Body.seq ?_
        refine Body.region ?_
        refine Ops.u (Dtu.asg (lk rfl)) rfl ?_
        refine Ops.u (Dtu.asg (lk rfl)) rfl ?_
        refine Ops.nil ?_
        refine Then.next ?_
        refine Body.ret ?_
        refine Then.ret ?_
        refine Blk.ret ?_
        refine Round.ret ?_
        refine Blk.ret ?_
        refine Then.ret ?_
        rw [← hr]
        exact ⟨.inr rfl, _, pk [] rfl, rfl, rfl⟩
      · rw [if_neg (by assumption)] at hr
        refine Body.skip ?_
        refine Then.next ?_
        refine Body.seq ?_
        refine Body.region ?_
        refine Ops.u (Dtu.mv (lk rfl)) rfl ?_
        refine Ops.u (Dtu.mv (lk rfl)) rfl ?_
        refine Ops.s (Stp.call rfl Try.call77 (lks rfl) (fun E' le hat => get_ok E' _ _ _ (Sl.mono (by assumption) le) (by assumption)) ?_) rfl
        rintro _ _ ⟨rfl, rfl⟩
        refine Ops.u (Dtu.mv (lk rfl)) rfl ?_
        refine Ops.u (Dtu.ext (lk rfl) rfl) rfl ?_
        refine Ops.u (Dtu.ext (lk rfl) rfl) rfl ?_
        refine Ops.u (Dtu.ext (lk rfl) rfl) rfl ?_
        refine Ops.u (Dtu.asg (lk rfl)) rfl ?_
        refine Ops.u (Dtu.asg (lk rfl)) rfl ?_
        refine Ops.u (Dtu.asg (lk rfl)) rfl ?_
        refine Ops.nil ?_
        refine Then.next ?_
        refine Body.seq ?_
        refine Body.seq ?_
        refine Body.region ?_
        refine Ops.u (Dtu.mv (lk rfl)) rfl ?_
        refine Ops.u (Dtu.neq (lk rfl) (lk rfl)) rfl ?_
        refine Ops.u (Dtu.mv (lk rfl)) rfl ?_
        refine Ops.decP 36 rfl (fun c36 => ?_) (fun c36 => ?_)
        · rw [if_pos (.inl (by assumption))] at hr
          refine Ops.gn rfl rfl rfl rfl rfl ?_
          refine Ops.gn rfl rfl rfl rfl rfl ?_
          refine Ops.u (Dtu.pickT (lk rfl) (lk rfl)) rfl ?_
          refine Ops.nil ?_
          refine Then.next ?_
          refine Body.condT (lk rfl) ?_
          refine Body.seq ?_
          refine Body.region ?_
          refine Ops.u (Dtu.asg (lk rfl)) rfl ?_
          refine Ops.u (Dtu.asg (lk rfl)) rfl ?_
          refine Ops.nil ?_
          refine Then.next ?_
          refine Body.ret ?_
          refine Then.ret ?_
          refine Blk.ret ?_
          refine Round.ret ?_
          refine Blk.ret ?_
          refine Then.ret ?_
          rw [← hr]
          exact ⟨.inr rfl, _, pk [] rfl, rfl, rfl⟩
        · refine Ops.gu rfl rfl rfl (Dtu.mv (lk rfl)) rfl ?_
          refine Ops.gu rfl rfl rfl (Dtu.eql (lk rfl) (lk rfl)) rfl ?_
          refine Ops.u (Dtu.pickF (lk rfl) (lk rfl)) rfl ?_
          refine Ops.nil ?_
          refine Then.next ?_
          refine Body.condP (lk rfl) (fun c39 => ?_) (fun c39 => ?_)
          · rw [if_pos (.inr (by assumption))] at hr
            refine Body.seq ?_
            refine Body.region ?_
            refine Ops.u (Dtu.asg (lk rfl)) rfl ?_
            refine Ops.u (Dtu.asg (lk rfl)) rfl ?_
            refine Ops.nil ?_
            refine Then.next ?_
            refine Body.ret ?_
            refine Then.ret ?_
            refine Blk.ret ?_
            refine Round.ret ?_
            refine Blk.ret ?_
            refine Then.ret ?_
            rw [← hr]
            exact ⟨.inr rfl, _, pk [] rfl, rfl, rfl⟩
          · rw [if_neg (by omega)] at hr
            have e1 := g2 (by omega)
            have e2 := g4 (by omega)
            obtain ⟨q, hq⟩ := Int.eq_ofNat_of_zero_le g3.1
            rw [hq, Int.toNat_natCast] at hr
            generalize hp0 : (getS bs (getS bs a).2.1).2.1 = p0 at *
            refine Body.skip ?_
            refine Then.next ?_
            refine Body.seq ?_
            refine Body.region ?_
            refine Ops.u (Dtu.mv (lk rfl)) rfl ?_
            refine Ops.u (Dtu.min (lk rfl) (lk rfl)) rfl ?_
            refine Ops.u (Dtu.cvt Try.underlying22 Try.underlying3 (lk rfl) (w64 (by omega) (by omega))) rfl ?_
            refine Ops.u (Dtu.build ty169 pl169 (lkp rfl) rfl rfl) rfl ?_
            refine Ops.s (Stp.alloc ty169 (fun b10 => ?_)) rfl
            refine Ops.e (Stp.store 0 Try.sizeOf169 (lk rfl) (lk rfl) rfl rfl rfl rfl rfl rfl rfl ?_)
            refine Ops.nil ?_
            refine Then.next ?_
            refine Body.seq ?_
            refine Body.seq ?_
            refine Body.region ?_
            refine Ops.u (Dtu.mv (lk rfl)) rfl ?_
            refine Ops.u (Dtu.mv (lk rfl)) rfl ?_
            refine Ops.u (Dtu.lenS Try.underlying23 (Sl.up h) (lk rfl)) rfl ?_
            refine Ops.u (Dtu.cvt Try.underlying3 Try.underlying22 (lk rfl) (wu64 (by omega) (by omega))) rfl ?_
            refine Ops.u (Dtu.min (lk rfl) (lk rfl)) rfl ?_
            refine Ops.u (Dtu.mv (lk rfl)) rfl ?_
            refine Ops.nil ?_
            refine Then.next ?_
            refine Body.block ?_
            refine Body.conseq (H' := [osl 127 4 (.slice none 0 0) 0 [], own b10 [.int .i64 (min (getS bs a).1 24000), .slice none 0 0] 169, osl 169 2 (.slice z1 z2 z3) L.length (L.flatMap RunV.enc), many (L.map RunV.own)]) (fun w s => osl_nil s) ?_
            refine Body.loopF (γ := List Cell × Int × (Option Addr × Nat × Nat)) rfl (fun g => [(49, .int .u64 g.1.length), (7, .int .i64 g.2.1)]) (fun g => [osl 127 4 (.slice g.2.2.1 g.2.2.2.1 g.2.2.2.2) g.1.length (g.1.flatMap Cell.enc), own b10 [.int .i64 (min (getS bs a).1 24000), .slice g.2.2.1 g.2.2.2.1 g.2.2.2.2] 169, osl 169 2 (.slice z1 z2 z3) L.length (L.flatMap RunV.enc), many (L.map RunV.own)])
              (fun g => readN bs (q - g.1.length) g.1 g.2.1 = readN bs q [] p0 ∧ (g.1.length : Int) ≤ min (q : Int) bs.length ∧ p0 + g.1.length ≤ g.2.1 ∧ g.2.1 ≤ bs.length) (fun g => q - g.1.length) ([], p0, (none, 0, 0)) ⟨by simp, by simp; omega, by simp, by dsimp only; omega⟩ ⟨rfl, rfl, trivial⟩ rfl ?_
            rintro ⟨cs, p, y1, y2, y3⟩ u2 ⟨hN, hj, hp1, hp2⟩
            dsimp only at hN hj hp1 hp2 ⊢
            have hcf := cellR_fl bs hb p
            have hcn := cellR_next bs p
            refine Body.seq ?_
            refine Body.region ?_
            refine Ops.u (Dtu.lss (lk rfl) (lk rfl)) rfl ?_
            refine Ops.nil ?_
            refine Then.next ?_
            refine Body.seq ?_
            refine Body.condP (lk rfl) (fun c50 => ?_) (fun c50 => ?_)
            · obtain ⟨d, hd⟩ : ∃ d, q - cs.length = d + 1 := ⟨q - cs.length - 1, by omega⟩
              rw [hd, readN] at hN
              refine Body.skip ?_
              refine Then.next ?_
              refine Body.seq ?_
              refine Body.block ?_
              refine Body.seq ?_
              refine Body.region ?_
              refine Ops.u (Dtu.mv (lk rfl)) rfl ?_
              refine Ops.u (Dtu.mv (lk rfl)) rfl ?_
              refine Ops.s (Stp.call rfl Try.call114 (lks rfl) (fun E' le hat => getCell_ok E' _ _ _ (Sl.mono (by assumption) le) (by assumption)) ?_) rfl
              rintro _ _ ⟨rfl, rfl⟩
              refine Ops.u (Dtu.mv (lk rfl)) rfl ?_
              refine Ops.u (Dtu.ext (lk rfl) rfl) rfl ?_
              refine Ops.u (Dtu.ext (lk rfl) rfl) rfl ?_
              refine Ops.u (Dtu.ext (lk rfl) rfl) rfl ?_
              refine Ops.s (Stp.alloc ty127 (fun b11 => ?_)) rfl
              refine Ops.e (Stp.store 0 Try.sizeOf127 (lk rfl) (lk rfl) rfl rfl rfl rfl rfl rfl rfl ?_)
              refine Ops.u (Dtu.asg (lk rfl)) rfl ?_
              refine Ops.u (Dtu.asg (lk rfl)) rfl ?_
              refine Ops.nil ?_
              refine Then.next ?_
              refine Body.seq ?_
              refine Body.seq ?_
              refine Body.region ?_
              refine Ops.u (Dtu.mv (lk rfl)) rfl ?_
              refine Ops.u (Dtu.neq (lk rfl) (lk rfl)) rfl ?_
              refine Ops.nil ?_
              refine Then.next ?_
              refine Body.condP (lk rfl) (fun c59 => ?_) (fun c59 => ?_)
              · rw [if_pos (by assumption)] at hN
                rw [← hN] at hr
                refine Body.seq ?_
                refine Body.region ?_
                refine Ops.u (Dtu.asg (lk rfl)) rfl ?_
                refine Ops.u (Dtu.asg (lk rfl)) rfl ?_
                refine Ops.nil ?_
                refine Then.next ?_
                refine Body.ret ?_
                refine Then.ret ?_
                refine Blk.ret ?_
                refine Then.ret ?_
                refine Round.ret ?_
                refine Blk.ret ?_
                refine Then.ret ?_
                refine Blk.ret ?_
                refine Round.ret ?_
                refine Blk.ret ?_
                refine Then.ret ?_
                rw [← hr]
                exact ⟨.inr rfl, _, pk [] rfl, rfl, rfl⟩
              · rw [if_neg (by assumption)] at hN
                have e3 := hcn (by omega)
                refine Body.skip ?_
                refine Then.next ?_
                refine Body.seq ?_
                refine Body.region ?_
                refine Ops.u (Dtu.fld fa169_1 (lk rfl)) rfl ?_
                refine Ops.d (Det.ld Try.isAgg58 (lk rfl) (Rd.ow 2 rfl rfl)) rfl ?_
                refine Ops.d (Det.lda Try.isAgg127 Try.sizeOf127 (lk rfl) (Rds.ow (m := 4) 0 rfl rfl) rfl) rfl ?_
                refine Ops.s (Stp.buildSliceO Try.underlying58 ty127 (by decide) (by decide) (lkp rfl) rfl rfl rfl (by decide) (fun v63 => ?_)) rfl
                refine Ops.s (Stp.append 2 Try.underlying58 ty127 rfl rfl (lk rfl) (lk rfl) (Sl.osl 0 rfl) (by first | rfl | exact all_map (fun _ => rfl) _ | exact all_flat (fun _ => rfl) _) (by omega) (by omega) (fun v64 => ?_)) rfl
                refine Ops.u (Dtu.fld fa169_1 (lk rfl)) rfl ?_
                refine Ops.pure (Sl.isSl (Sl.osl 2 rfl)) fun h64 => ?_
                obtain ⟨x1, x2, x3, rfl⟩ := h64
                refine Ops.e (Stp.store 3 Try.sizeOf58 (lk rfl) (lk rfl) rfl rfl rfl rfl rfl rfl rfl ?_)
                refine Ops.nil ?_
                refine Then.next ?_
                refine Body.region ?_
                refine Ops.u (Dtu.mv (lk rfl)) rfl ?_
                refine Ops.u (Dtu.asg (lk rfl)) rfl ?_
                refine Ops.nil ?_
                refine Blk.norm ?_
                refine Then.next ?_
                refine Body.region ?_
                refine Ops.u (Dtu.add (lk rfl) (lk rfl) (wu64 (by omega) (by omega))) rfl ?_
                refine Ops.u (Dtu.mv (lk rfl)) rfl ?_
                refine Ops.nil ?_
                refine Round.goK [2, 2, 2, 2] (cs ++ [(cellR bs p).1], (cellR bs p).2.1, (x1, x2, x3)) rfl rfl rfl ⟨int_eq (by simp), rfl, trivial⟩ rfl ?_ ⟨?_, by dsimp only; simp; omega, by dsimp only; simp; omega, by dsimp only; omega⟩ (by simp; omega)
                · simp [Cell.enc]
                · dsimp only
                  rw [← hN]; congr 1; simp; omega
            · have hjq : cs.length = q := by omega
              rw [show q - cs.length = 0 by omega, readN] at hN
              rw [← hN] at hr
              dsimp only at hr
              refine Body.exit ?_
              refine Then.exit ?_
              refine Round.exit ?_
              refine Blk.here ?_
              refine Then.next ?_
              refine Body.seq ?_
              refine Body.seq ?_
              refine Body.region ?_
              refine Ops.u (Dtu.fld fa169_1 (lk rfl)) rfl ?_
              refine Ops.d (Det.ld Try.isAgg58 (lk rfl) (Rd.ow 1 rfl rfl)) rfl ?_
              refine Ops.u (Dtu.lenS Try.underlying58 (Sl.osl 0 rfl) (lk rfl)) rfl ?_
              refine Ops.u (Dtu.cvt Try.underlying3 Try.underlying22 (lk rfl) (wu64 (by omega) (by omega))) rfl ?_
              refine Ops.u (Dtu.mv (lk rfl)) rfl ?_
              refine Ops.u (Dtu.lss (lk rfl) (lk rfl)) rfl ?_
              refine Ops.nil ?_
              refine Then.next ?_
              refine Body.condP (lk rfl) (fun hy => absurd hy (by first | omega | assumption | decide)) (fun _ => ?_)
              refine Body.skip ?_
              refine Then.next ?_
              refine Body.seq ?_
              refine Body.region ?_
              refine Ops.u (Dtu.mv (lk rfl)) rfl ?_
              refine Ops.d (Det.lda Try.isAgg169 Try.sizeOf169 (lk rfl) (Rds.ow (m := 2) 1 rfl rfl) rfl) rfl ?_
              refine Ops.s (Stp.buildSliceO Try.underlying165 ty169 (by decide) (by decide) (lkp rfl) rfl rfl rfl (by decide) (fun v76 => ?_)) rfl
              refine Ops.s (Stp.append 3 Try.underlying165 ty169 rfl rfl (lk rfl) (lk rfl) (Sl.osl 0 rfl) (by first | rfl | exact all_map (fun _ => rfl) _ | exact all_flat (fun _ => rfl) _) (by omega) (by omega) (fun v77 => ?_)) rfl
              refine Ops.u (Dtu.asg (lk rfl)) rfl ?_
              refine Ops.nil ?_
              refine Then.next ?_
              refine Body.region ?_
              refine Ops.u (Dtu.mv (lk rfl)) rfl ?_
              refine Ops.u (Dtu.asg (lk rfl)) rfl ?_
              refine Ops.nil ?_
              refine Blk.norm ?_
              refine Round.goW (k, L ++ [⟨min (getS bs a).1 24000, y1, y2, y3, cs⟩], p, v77) rfl rfl rfl ⟨rfl, rfl, trivial⟩ (fun w s => ?_) ⟨?_, by dsimp only; omega, by dsimp only; omega, by dsimp only; omega, by simp; omega⟩ (by simp)
              · have s1 := s.front [1, 3, 2] rfl
                have s2 := many_snoc s1
                have s3 := pk [1, 0] rfl w s2
                dsimp only
                simp only [List.length_append, List.length_cons, List.length_nil, List.flatMap_append, List.flatMap_cons, List.flatMap_nil, List.map_append, List.map_cons, List.map_nil, List.append_nil]
                exact s3
              · dsimp only
                rw [← hr]; simp [RunV.val]
    · rw [if_neg (by omega)] at hr
      refine Body.exit ?_
      refine Then.exit ?_
      refine Round.exit ?_
      refine Blk.here ?_
      refine Then.next ?_
      refine Body.seq ?_
      refine Body.region ?_
      refine Ops.u (Dtu.mv (lk rfl)) rfl ?_
      refine Ops.u (Dtu.mv (lk rfl)) rfl ?_
      refine Ops.u (Dtu.lenS Try.underlying23 (Sl.up h) (lk rfl)) rfl ?_
      refine Ops.u (Dtu.geq (lk rfl) (lk rfl)) rfl ?_
      refine Ops.u (Dtu.asg (lk rfl)) rfl ?_
      refine Ops.u (Dtu.asg (lk rfl)) rfl ?_
      refine Ops.nil ?_
      refine Then.next ?_
      refine Body.ret ?_
      rw [← hr]
      exact ⟨.inr rfl, _, pk [0, 0] rfl, z1, z2, z3, L, by show Value.tuple #[_, .bool (decide (5 ≤ (bs.length : Int)))] = _; rw [decide_eq_true (by omega)]; rfl, rfl, rfl⟩
end Go.Proofs.Ytagcpamchgpgiaa
end
section
/- Patches: Apply. -/
namespace Go.Proofs.Ytagcpamchgpgiaa
set_option maxRecDepth 100000
set_option linter.unusedVariables false
set_option linter.unusedSimpArgs false
open Go.Sx

/-- cells with others laid on them -/
def lay (B : List Cell) (i : Nat) (l : List Cell) : List Cell := B.take i ++ l ++ B.drop (i + l.length)
def applyL : List Cell → Nat → List Run → List Cell
  | B, _, [] => B
  | B, a, (k, l) :: t => if B.length < a + k.toNat ∨ B.length - (a + k.toNat) < l.length then [] else applyL (lay B (a + k.toNat) l) (a + k.toNat + l.length) t
def applyW (a : View) (bs : List Int) (rs : List Run) : View := ⟨bs[0]!, bs[1]!, applyL (baseC a bs[0]! bs[1]!) 0 rs, bs[2]!, bs[3]!, decide (bs[4]! = 1)⟩
/-- the view to which bytes are a patch -/
def applyV (a : View) (bs : List Int) : Option View :=
  match runsP bs with
  | none => none
  | some rs => if a.ok = false ∨ 12 < bs[0]! ∨ 40 < bs[1]! then none else if (applyW a bs rs).ok = true ∧ difB a (applyW a bs rs) = bs then some (applyW a bs rs) else none
theorem lay_len {B l : List Cell} {i : Nat} (h : i + l.length ≤ B.length) : (lay B i l).length = B.length := by simp [lay]; omega
def RunFine (r : Run) : Prop := (0 ≤ r.1 ∧ r.1 ≤ 24000) ∧ ∀ c ∈ r.2, c.Fl
theorem readN_fl (bs : List Int) (hb : Byt bs) : ∀ (k : Nat) (cs : List Cell) (a : Int) {x : List Cell × Int}, readN bs k cs a = some x → (∀ c ∈ cs, c.Fl) → ∀ c ∈ x.1, c.Fl
  | 0, cs, a, x, h, hc => by
    simp only [readN, Option.some.injEq] at h; subst h; exact hc
  | k + 1, cs, a, x, h, hc => by
    simp only [readN] at h
    split at h
    · cases h
    · refine readN_fl bs hb k _ _ h fun c hm => ?_
      rcases List.mem_append.1 hm with hm | hm
      · exact hc c hm
      · rw [List.mem_singleton.1 hm]; exact cellR_fl bs hb a
theorem readRs_fine (bs : List Int) (hb : Byt bs) : ∀ (k : Nat) (rs : List Run) (a : Int) {x : List Run}, readRs bs k rs a = some x → (∀ r ∈ rs, RunFine r) → ∀ r ∈ x, RunFine r
  | 0, rs, a, x, h, hc => by cases h
  | k + 1, rs, a, x, h, hc => by
    simp only [readRs] at h
    split at h
    · split at h
      · cases h
      · split at h
        · cases h
        · split at h
          · cases h
          · rename_i cs a' hN
            refine readRs_fine bs hb k _ _ h fun r hm => ?_
            rcases List.mem_append.1 hm with hm | hm
            · exact hc r hm
            · rw [List.mem_singleton.1 hm]
              have := getS_bound bs hb a
              exact ⟨by dsimp only; omega, readN_fl bs hb _ _ _ hN (by simp)⟩
    · simp only [Option.some.injEq] at h; subst h; exact hc
theorem runsP_fine {bs : List Int} (hb : Byt bs) {rs : List Run} (h : runsP bs = some rs) : ∀ r ∈ rs, RunFine r := by
  unfold runsP at h
  split at h
  · cases h
  · exact readRs_fine bs hb _ _ _ h (by simp)
theorem runsP_len {bs : List Int} {rs : List Run} (h : runsP bs = some rs) : 5 ≤ bs.length := by
  unfold runsP at h
  split at h
  · cases h
  · omega
theorem lay_fl {B l : List Cell} {i : Nat} (h1 : ∀ c ∈ B, c.Fl) (h2 : ∀ c ∈ l, c.Fl) : ∀ c ∈ lay B i l, c.Fl := fun c hc => by
  simp only [lay, List.mem_append] at hc
  rcases hc with (hc | hc) | hc
  · exact h1 c (List.mem_of_mem_take hc)
  · exact h2 c hc
  · exact h1 c (List.mem_of_mem_drop hc)
theorem applyL_fl : ∀ (rs : List Run) (B : List Cell) (a : Nat), (∀ c ∈ B, c.Fl) → (∀ r ∈ rs, RunFine r) → ∀ c ∈ applyL B a rs, c.Fl
  | [], B, a, h, _ => h
  | (k, l) :: t, B, a, h, hr => by
    simp only [applyL]
    split
    · simp
    · exact applyL_fl t _ _ (lay_fl h (hr (k, l) (by simp)).2) fun r hm => hr r (by simp [hm])
theorem baseC_fl {a : View} (h : ∀ c ∈ a.cells, c.Fl) (r k : Int) : ∀ c ∈ baseC a r k, c.Fl := by
  unfold baseC
  split
  · exact h
  · intro c hc
    rw [(List.mem_replicate.1 hc).2]; exact ⟨by decide, by decide⟩
theorem baseC_len {a : View} {r k : Int} (h : 0 ≤ r ∧ r ≤ 12 ∧ 0 ≤ k ∧ k ≤ 40) (ha : a.cells.length ≤ 480) : (baseC a r k).length ≤ 480 := by
  have := mul_bound0 h
  unfold baseC
  split
  · exact ha
  · rw [List.length_replicate]; omega
theorem encR_byt {r : Nat × List Cell} (h : ∀ c ∈ r.2, c.ok = true ∧ c.Fl) (h1 : r.1 < 1000000) (h2 : r.2.length < 1000000) : BytM (encR r) := by
  have hc : ∀ l : List Cell, (∀ c ∈ l, c.ok = true ∧ c.Fl) → BytM (l.flatMap Cell.bytes) := by
    intro l
    induction l with
    | nil => intro _; exact .nil
    | cons c t ih => intro h; exact .append (c.bytes_byt (h c (by simp)).1 (h c (by simp)).2) (ih fun d hd => h d (by simp [hd]))
  exact .append (putL_byt (by omega) (by omega)) (.append (putL_byt (by omega) (by omega)) (hc _ h))
theorem difR_bound : ∀ (ps : List (Cell × Cell)) (k : Nat) (run : List Cell) (r : Nat × List Cell), r ∈ difR k run ps → r.1 ≤ k + ps.length + 1 ∧ r.2.length ≤ run.length + ps.length ∧ ∀ c ∈ r.2, c ∈ run ∨ c ∈ ps.map Prod.snd
  | [], k, run, r, h => by
    simp only [difR] at h
    split at h
    · cases h
    · rw [List.mem_singleton.1 h]; exact ⟨by simp only [List.length_nil]; omega, by simp, fun c hc => .inl hc⟩
  | (x, y) :: t, k, run, r, h => by
    simp only [difR] at h
    split at h
    · split at h
      · obtain ⟨h1, h2, h3⟩ := difR_bound t _ _ r h
        refine ⟨by simp; omega, by simp at h2 ⊢; omega, fun c hc => ?_⟩
        rcases h3 c hc with h | h
        · cases h
        · exact .inr (by simp at h ⊢; exact .inr h)
      · rcases List.mem_cons.1 h with rfl | h
        · exact ⟨by simp only; omega, by simp, fun c hc => .inl hc⟩
        · obtain ⟨h1, h2, h3⟩ := difR_bound t _ _ r h
          refine ⟨by simp; omega, by simp at h2 ⊢; omega, fun c hc => ?_⟩
          rcases h3 c hc with h | h
          · cases h
          · exact .inr (by simp at h ⊢; exact .inr h)
    · obtain ⟨h1, h2, h3⟩ := difR_bound t _ _ r h
      refine ⟨by simp; omega, by simp at h2 ⊢; omega, fun c hc => ?_⟩
      rcases h3 c hc with h | h
      · rcases List.mem_append.1 h with h | h
        · exact .inl h
        · rw [List.mem_singleton.1 h]; exact .inr (by simp)
      · exact .inr (by simp at h ⊢; exact .inr h)
theorem flatMap_byt {α : Type} {f : α → List Int} : ∀ {l : List α}, (∀ x ∈ l, BytM (f x)) → BytM (l.flatMap f)
  | [], _ => .nil
  | x :: t, h => .append (h x (by simp)) (flatMap_byt fun y hy => h y (by simp [hy]))
theorem difB_byt {a b : View} (hb : b.ok = true) (hf : ∀ c ∈ b.cells, c.Fl) : Byt (difB a b) := by
  obtain ⟨⟨hrc, f1, f2, f3, f4, f5⟩, hc⟩ := View.ok_fits hb
  have hm := mul_bound hrc
  have hl : ((baseC a b.rows b.cols).zip b.cells).length ≤ 480 := by rw [List.length_zip]; omega
  refine BytM.byt (.append (.cons (by omega) (.cons (by omega) (.cons (by omega) (.cons (by omega) (.cons ?_ .nil))))) (flatMap_byt fun r hr => ?_))
  · split <;> omega
  · obtain ⟨h1, h2, h3⟩ := difR_bound _ _ _ r hr
    refine encR_byt (fun c hcm => ?_) (by omega) (by simp at h2; omega)
    rcases h3 c hcm with h | h
    · cases h
    · have : c ∈ b.cells := by
        obtain ⟨p, hp, rfl⟩ := List.mem_map.1 h
        exact (List.of_mem_zip hp).2
      exact ⟨hc c this, hf c this⟩
end Go.Proofs.Ytagcpamchgpgiaa
end
section
/- Patches: Apply, what it computes. -/
namespace Go.Proofs.Ytagcpamchgpgiaa
set_option maxRecDepth 100000
set_option linter.unusedVariables false
set_option linter.unusedSimpArgs false
open Go.Sx

set_option maxHeartbeats 3200000 in
theorem apply_ok (E : Env) (a : View) (s b : Value) (bs : List Int) (ha : a.has E [] s) (h : Sl E [] 1 b bs.length (bs.map (.int .u8))) (hb : Byt bs) (hmax : bs.length ≤ 100000) (hfl : ∀ c ∈ a.cells, c.Fl) : Does Try.prog 76 #[a.val s, b] E [] fun r H' =>
    match applyV a bs with
    | some v => ∃ s, r = .tuple #[v.val s, .int .i64 0] ∧ H' = [osl 127 4 s v.cells.length (v.cells.flatMap Cell.enc)]
    | none => r = .tuple #[View.none.val (.slice none 0 0), .int .i64 3] ∧ H' = [] := by
  have hR := fun (E' : Env) (le : Env.Le E E') => runs_ok E' b bs (Sl.mono h le) hb hmax
  unfold View.has at ha
  refine Does.pure ha.isSl fun hs => ?_
  obtain ⟨sa, sm, sc, rfl⟩ := hs
  refine Does.go (args := [a.val (.slice sa sm sc), b]) _ _ Try.func76 rfl Try.ntmps76 rfl rfl ?_
  have hV : applyV a bs = match runsP bs with
      | none => none
      | some rs => if a.ok = false ∨ 12 < bs[0]! ∨ 40 < bs[1]! then none else if (applyW a bs rs).ok = true ∧ difB a (applyW a bs rs) = bs then some (applyW a bs rs) else none := rfl
  cases hr : runsP bs with
  | none =>
    rw [hr] at hR hV
    rw [hV]
    refine Body.seq ?_
    refine Body.region ?_
    refine Ops.s (Stp.box (lk rfl) rfl (fun b2 => ?_)) rfl
    refine Ops.s (Stp.alloc ty60 (fun b4 => ?_)) rfl
    refine Ops.u (Dtu.asg (lk rfl)) rfl ?_
    refine Ops.nil ?_
    refine Then.next ?_
    refine Body.scope ?_
    refine Body.seq ?_
    refine Body.region ?_
    refine Ops.u (Dtu.mv (lk rfl)) rfl ?_
    refine Ops.s (Stp.call rfl Try.call101 (lks rfl) (fun E' le hat => hR E' le) ?_) rfl
    rintro _ _ ⟨rfl, rfl⟩
    refine Ops.u (Dtu.mv (lk rfl)) rfl ?_
    refine Ops.u (Dtu.ext (lk rfl) rfl) rfl ?_
    refine Ops.u (Dtu.ext (lk rfl) rfl) rfl ?_
    refine Ops.u (Dtu.asg (lk rfl)) rfl ?_
    refine Ops.u (Dtu.asg (lk rfl)) rfl ?_
    refine Ops.nil ?_
    refine Then.next ?_
    refine Body.seq ?_
    refine Body.seq ?_
    refine Body.region ?_
    refine Ops.u (Dtu.mv (lk rfl)) rfl ?_
    refine Ops.u (Dtu.not (lk rfl)) rfl ?_
    refine Ops.u (Dtu.mv (lk rfl)) rfl ?_
    refine Ops.gn rfl rfl rfl rfl rfl ?_
    refine Ops.gn rfl rfl rfl rfl rfl ?_
    refine Ops.gn rfl rfl rfl rfl rfl ?_
    refine Ops.u (Dtu.pickT (lk rfl) (lk rfl)) rfl ?_
    refine Ops.nil ?_
    refine Then.next ?_
    refine Body.condT (lk rfl) ?_
    refine Body.seq ?_
    refine Body.region ?_
    refine Ops.u (Dtu.build ty60 pl60 (lkp rfl) rfl rfl) rfl ?_
    refine Ops.e (Stp.store 0 Try.sizeOf60 (lk rfl) (lk rfl) rfl rfl rfl rfl rfl rfl rfl ?_)
    refine Ops.u (Dtu.asg (lk rfl)) rfl ?_
    refine Ops.nil ?_
    refine Then.next ?_
    refine Body.ret ?_
    refine Then.ret ?_
    exact ⟨.inr rfl, _, Loads.agg Try.isAgg60 Try.sizeOf60 (Rds.ow (m := 6) 0 rfl rfl) rfl, _, pk [] rfl, rfl, rfl⟩
  | some rs =>
    have h5 := runsP_len hr
    have hfine := runsP_fine hb hr
    rw [hr] at hR hV
    dsimp only at hV
    refine Body.seq ?_
    refine Body.region ?_
    refine Ops.s (Stp.box (lk rfl) rfl (fun b2 => ?_)) rfl
    refine Ops.s (Stp.alloc ty60 (fun b4 => ?_)) rfl
    refine Ops.u (Dtu.asg (lk rfl)) rfl ?_
    refine Ops.nil ?_
    refine Then.next ?_
    refine Body.scope ?_
    refine Body.seq ?_
    refine Body.region ?_
    refine Ops.u (Dtu.mv (lk rfl)) rfl ?_
    refine Ops.s (Stp.call rfl Try.call101 (lks rfl) (fun E' le hat => hR E' le) ?_) rfl
    rintro _ _ ⟨l1, l2, l3, L, rfl, rfl, hL⟩
    have d0 := hb 0 (by omega)
    have d1 := hb 1 (by omega)
    have d2 := hb 2 (by omega)
    have d3 := hb 3 (by omega)
    have d4 := hb 4 (by omega)
    cases hk : a.ok with
    | false =>
      rw [hV, if_pos (.inl hk)]
      refine Ops.u (Dtu.mv (lk rfl)) rfl ?_
      refine Ops.u (Dtu.ext (lk rfl) rfl) rfl ?_
      refine Ops.u (Dtu.ext (lk rfl) rfl) rfl ?_
      refine Ops.u (Dtu.asg (lk rfl)) rfl ?_
      refine Ops.u (Dtu.asg (lk rfl)) rfl ?_
      refine Ops.nil ?_
      refine Then.next ?_
      refine Body.seq ?_
      refine Body.seq ?_
      refine Body.region ?_
      refine Ops.u (Dtu.mv (lk rfl)) rfl ?_
      refine Ops.u (Dtu.not (lk rfl)) rfl ?_
      refine Ops.u (Dtu.mv (lk rfl)) rfl ?_
      refine Ops.gd rfl rfl rfl (Det.lda Try.isAgg60 Try.sizeOf60 (lk rfl) (Rds.ow (m := 6) 3 rfl rfl) rfl) rfl ?_
      refine Ops.gs rfl rfl rfl (Stp.call rfl Try.call62 (lks rfl) (fun E' le hat => right_ok E' ⟨_, _, _, _, _, _⟩ _ (Sl.mono (by assumption) le)) ?_) rfl
      rintro _ _ ⟨rfl, rfl⟩
      refine Ops.gu rfl rfl rfl (Dtu.not (lk rfl)) rfl ?_
      refine Ops.u (Dtu.pickF (lk rfl) (lk rfl)) rfl ?_
      refine Ops.nil ?_
      refine Then.next ?_
      refine Body.cond (lk rfl) (fun _ => ?_) (fun hn => absurd hn (by first | (rw [hk]; decide) | simp [hk]))
      refine Body.seq ?_
      refine Body.region ?_
      refine Ops.u (Dtu.build ty60 pl60 (lkp rfl) rfl rfl) rfl ?_
      refine Ops.e (Stp.store 2 Try.sizeOf60 (lk rfl) (lk rfl) rfl rfl rfl rfl rfl rfl rfl ?_)
      refine Ops.u (Dtu.asg (lk rfl)) rfl ?_
      refine Ops.nil ?_
      refine Then.next ?_
      refine Body.ret ?_
      refine Then.ret ?_
      exact ⟨.inr rfl, _, Loads.agg Try.isAgg60 Try.sizeOf60 (Rds.ow (m := 6) 2 rfl rfl) rfl, _, pk [] rfl, rfl, rfl⟩
    | true =>
      obtain ⟨fa, oa⟩ := View.ok_fits hk
      have hma := mul_bound fa.1
      have hla : a.cells.length ≤ 480 := by have := fa.2.2.2.2.2; omega
      refine Ops.u (Dtu.mv (lk rfl)) rfl ?_
      refine Ops.u (Dtu.ext (lk rfl) rfl) rfl ?_
      refine Ops.u (Dtu.ext (lk rfl) rfl) rfl ?_
      refine Ops.u (Dtu.asg (lk rfl)) rfl ?_
      refine Ops.u (Dtu.asg (lk rfl)) rfl ?_
      refine Ops.nil ?_
      refine Then.next ?_
      refine Body.seq ?_
      refine Body.seq ?_
      refine Body.region ?_
      refine Ops.u (Dtu.mv (lk rfl)) rfl ?_
      refine Ops.u (Dtu.not (lk rfl)) rfl ?_
      refine Ops.u (Dtu.mv (lk rfl)) rfl ?_
      refine Ops.gd rfl rfl rfl (Det.lda Try.isAgg60 Try.sizeOf60 (lk rfl) (Rds.ow (m := 6) 3 rfl rfl) rfl) rfl ?_
      refine Ops.gs rfl rfl rfl (Stp.call rfl Try.call62 (lks rfl) (fun E' le hat => right_ok E' ⟨_, _, _, _, _, _⟩ _ (Sl.mono (by assumption) le)) ?_) rfl
      rintro _ _ ⟨rfl, rfl⟩
      refine Ops.gu rfl rfl rfl (Dtu.not (lk rfl)) rfl ?_
      refine Ops.u (Dtu.pickF (lk rfl) (lk rfl)) rfl ?_
      refine Ops.nil ?_
      refine Then.next ?_
      refine Body.cond (lk rfl) (fun hn => absurd hn (by first | (rw [hk]; decide) | simp [hk])) (fun _ => ?_)
      refine Body.skip ?_
      refine Then.next ?_
      refine Body.seq ?_
      refine Body.draw mixed ?_
      refine AB.u 0 rfl (by decide +kernel) (Dtu.mv (lk rfl)) rfl ?_
      refine AB.u 1 rfl (by decide +kernel) (Dtu.ix (i := 0) Try.underlying23 Try.sizeOf5 (Sl.up h) (lk rfl) (lk rfl) (by omega) (by omega)) rfl ?_
      refine AB.d 2 rfl (by decide +kernel) rfl (Det.ld Try.isAgg5 (lk rfl) (Rd.sl (Sl.up h) (gm (by omega)))) rfl ?_
      refine AB.u 3 rfl (by decide +kernel) (Dtu.cvt Try.underlying5 Try.underlying3 (lk rfl) (w64 (by omega) (by omega))) rfl ?_
      refine AB.u 4 rfl (by decide +kernel) (Dtu.mv (lk rfl)) rfl ?_
      refine AB.u 5 rfl (by decide +kernel) (Dtu.ix (i := 1) Try.underlying23 Try.sizeOf5 (Sl.up h) (lk rfl) (lk rfl) (by omega) (by omega)) rfl ?_
      refine AB.d 6 rfl (by decide +kernel) rfl (Det.ld Try.isAgg5 (lk rfl) (Rd.sl (Sl.up h) (gm (by omega)))) rfl ?_
      refine AB.u 7 rfl (by decide +kernel) (Dtu.cvt Try.underlying5 Try.underlying3 (lk rfl) (w64 (by omega) (by omega))) rfl ?_
      refine AB.u 8 rfl (by decide +kernel) (Dtu.mv (lk rfl)) rfl ?_
      refine AB.u 9 rfl (by decide +kernel) (Dtu.ix (i := 2) Try.underlying23 Try.sizeOf5 (Sl.up h) (lk rfl) (lk rfl) (by omega) (by omega)) rfl ?_
      refine AB.d 10 rfl (by decide +kernel) rfl (Det.ld Try.isAgg5 (lk rfl) (Rd.sl (Sl.up h) (gm (by omega)))) rfl ?_
      refine AB.u 11 rfl (by decide +kernel) (Dtu.cvt Try.underlying5 Try.underlying3 (lk rfl) (w64 (by omega) (by omega))) rfl ?_
      refine AB.u 12 rfl (by decide +kernel) (Dtu.mv (lk rfl)) rfl ?_
      refine AB.u 13 rfl (by decide +kernel) (Dtu.ix (i := 3) Try.underlying23 Try.sizeOf5 (Sl.up h) (lk rfl) (lk rfl) (by omega) (by omega)) rfl ?_
      refine AB.d 14 rfl (by decide +kernel) rfl (Det.ld Try.isAgg5 (lk rfl) (Rd.sl (Sl.up h) (gm (by omega)))) rfl ?_
      refine AB.u 15 rfl (by decide +kernel) (Dtu.cvt Try.underlying5 Try.underlying3 (lk rfl) (w64 (by omega) (by omega))) rfl ?_
      refine AB.u 16 rfl (by decide +kernel) (Dtu.mv (lk rfl)) rfl ?_
      refine AB.u 17 rfl (by decide +kernel) (Dtu.ix (i := 4) Try.underlying23 Try.sizeOf5 (Sl.up h) (lk rfl) (lk rfl) (by omega) (by omega)) rfl ?_
      refine AB.d 18 rfl (by decide +kernel) rfl (Det.ld Try.isAgg5 (lk rfl) (Rd.sl (Sl.up h) (gm (by omega)))) rfl ?_
      refine AB.u 19 rfl (by decide +kernel) (Dtu.eql (lk rfl) (lk rfl)) rfl ?_
      refine AB.u 20 rfl (by decide +kernel) (Dtu.build ty60 pl60 (lkp rfl) rfl rfl) rfl ?_
      refine AB.s 21 rfl (by decide +kernel) (by decide +kernel) (Stp.alloc ty60 (fun b8 => ?_)) rfl
      refine AB.e 22 rfl (by decide +kernel) (by decide +kernel) (Stp.store 0 Try.sizeOf60 (lk rfl) (lk rfl) rfl rfl rfl rfl rfl rfl rfl ?_)
      refine AB.done (by decide +kernel) ?_
      refine Then.next ?_
      refine Body.seq ?_
      refine Body.seq ?_
      refine Body.region ?_
      refine Ops.u (Dtu.fld fa60_0 (lk rfl)) rfl ?_
      refine Ops.d (Det.ld Try.isAgg3 (lk rfl) (Rd.ow 0 rfl rfl)) rfl ?_
      refine Ops.u (Dtu.gtr (lk rfl) (lk rfl)) rfl ?_
      refine Ops.u (Dtu.mv (lk rfl)) rfl ?_
      refine Ops.decP 51 rfl (fun c51 => ?_) (fun c51 => ?_)
      · rw [hV, if_pos (.inr (.inl (by omega)))]
        refine Ops.gn rfl rfl rfl rfl rfl ?_
        refine Ops.gn rfl rfl rfl rfl rfl ?_
        refine Ops.gn rfl rfl rfl rfl rfl ?_
        refine Ops.u (Dtu.pickT (lk rfl) (lk rfl)) rfl ?_
        refine Ops.nil ?_
        refine Then.next ?_
        refine Body.condT (lk rfl) ?_
        refine Body.seq ?_
        refine Body.region ?_
        refine Ops.u (Dtu.build ty60 pl60 (lkp rfl) rfl rfl) rfl ?_
        refine Ops.e (Stp.store 3 Try.sizeOf60 (lk rfl) (lk rfl) rfl rfl rfl rfl rfl rfl rfl ?_)
        refine Ops.u (Dtu.asg (lk rfl)) rfl ?_
        refine Ops.nil ?_
        refine Then.next ?_
        refine Body.ret ?_
        refine Then.ret ?_
        exact ⟨.inr rfl, _, Loads.agg Try.isAgg60 Try.sizeOf60 (Rds.ow (m := 6) 3 rfl rfl) rfl, _, pk [] rfl, rfl, rfl⟩
      · refine Ops.gu rfl rfl rfl (Dtu.fld fa60_1 (lk rfl)) rfl ?_
        refine Ops.gd rfl rfl rfl (Det.ld Try.isAgg3 (lk rfl) (Rd.ow 0 rfl rfl)) rfl ?_
        refine Ops.gu rfl rfl rfl (Dtu.gtr (lk rfl) (lk rfl)) rfl ?_
        refine Ops.u (Dtu.pickF (lk rfl) (lk rfl)) rfl ?_
        refine Ops.nil ?_
        refine Then.next ?_
        refine Body.condP (lk rfl) (fun c55 => ?_) (fun c55 => ?_)
        · rw [hV, if_pos (.inr (.inr (by omega)))]
          refine Body.seq ?_
          refine Body.region ?_
          refine Ops.u (Dtu.build ty60 pl60 (lkp rfl) rfl rfl) rfl ?_
          refine Ops.e (Stp.store 3 Try.sizeOf60 (lk rfl) (lk rfl) rfl rfl rfl rfl rfl rfl rfl ?_)
          refine Ops.u (Dtu.asg (lk rfl)) rfl ?_
          refine Ops.nil ?_
          refine Then.next ?_
          refine Body.ret ?_
          refine Then.ret ?_
          exact ⟨.inr rfl, _, Loads.agg Try.isAgg60 Try.sizeOf60 (Rds.ow (m := 6) 3 rfl rfl) rfl, _, pk [] rfl, rfl, rfl⟩
        · rw [if_neg (by
            rintro (h | h)
            · rw [hk] at h; cases h
            · omega)] at hV
          have hN := baseC_len (a := a) (r := bs[0]!) (k := bs[1]!) (by omega) hla
          have hBf := baseC_fl hfl bs[0]! bs[1]!
          have hW : applyW a bs rs = ⟨bs[0]!, bs[1]!, applyL (baseC a bs[0]! bs[1]!) 0 rs, bs[2]!, bs[3]!, decide (bs[4]! = 1)⟩ := rfl
          refine Body.skip ?_
          refine Then.next ?_
          refine Body.seq ?_
          refine Body.region ?_
          refine Ops.d (Det.lda Try.isAgg60 Try.sizeOf60 (lk rfl) (Rds.ow (m := 6) 4 rfl rfl) rfl) rfl ?_
          refine Ops.u (Dtu.fld fa60_0 (lk rfl)) rfl ?_
          refine Ops.d (Det.ld Try.isAgg3 (lk rfl) (Rd.ow 0 rfl rfl)) rfl ?_
          refine Ops.u (Dtu.fld fa60_1 (lk rfl)) rfl ?_
          refine Ops.d (Det.ld Try.isAgg3 (lk rfl) (Rd.ow 0 rfl rfl)) rfl ?_
          refine Ops.s (Stp.call rfl Try.call94 (lks rfl) (fun E' le hat => base_ok E' a (.slice sa sm sc) bs[0]! bs[1]! (Sl.mono ha le) hla (by omega)) ?_) rfl
          rintro _ _ ⟨w1, w2, w3, rfl, rfl⟩
          generalize baseC a bs[0]! bs[1]! = C at *
          refine Ops.u (Dtu.fld fa60_2 (lk rfl)) rfl ?_
          refine Ops.e (Stp.store 1 Try.sizeOf58 (lk rfl) (lk rfl) rfl rfl rfl rfl rfl rfl rfl ?_)
          refine Ops.nil ?_
          refine Then.next ?_
          refine Body.seq ?_
          refine Body.region ?_
          refine Ops.u (Dtu.asg (lk rfl)) rfl ?_
          refine Ops.nil ?_
          refine Then.next ?_
          refine Body.seq ?_
          refine Body.label ?_
          refine Then.next ?_
          refine Body.seqJ (γ := List Cell × Option Addr × Nat × Nat) rfl (fun _ => []) (fun g => [osl 127 4 (.slice g.2.1 g.2.2.1 g.2.2.2) g.1.length (g.1.flatMap Cell.enc), own b8 [.int .i64 bs[0]!, .int .i64 bs[1]!, .slice g.2.1 g.2.2.1 g.2.2.2, .int .i64 bs[2]!, .int .i64 bs[3]!, .bool (decide (bs[4]! = 1))] 60, own b4 [.int .i64 0, .int .i64 0, .slice none 0 0, .int .i64 0, .int .i64 0, .bool false] 60, own b2 [.int .i64 a.rows, .int .i64 a.cols, .slice sa sm sc, .int .i64 a.row, .int .i64 a.col, .bool a.vis] 60]) (fun g => applyL C 0 rs = g.1) ?_ ?_
          · refine Body.seq ?_
            refine Body.region ?_
            refine Ops.u (Dtu.mv (lk rfl)) rfl ?_
            refine Ops.u (Dtu.lenS Try.underlying165 (Sl.osl 2 rfl) (lk rfl)) rfl ?_
            refine Ops.u (Dtu.mv (lk rfl)) rfl ?_
            refine Ops.nil ?_
            refine Then.next ?_
            refine Body.block ?_
            refine Body.loopF (γ := Nat × List Cell × Nat) rfl (fun g => [(66, .int .i64 g.1), (9, .int .i64 g.2.2)]) (fun g => [osl 127 4 (.slice w1 w2 w3) g.2.1.length (g.2.1.flatMap Cell.enc), own b8 [.int .i64 bs[0]!, .int .i64 bs[1]!, .slice w1 w2 w3, .int .i64 bs[2]!, .int .i64 bs[3]!, .bool (decide (bs[4]! = 1))] 60, osl 169 2 (.slice l1 l2 l3) L.length (L.flatMap RunV.enc), many (L.map RunV.own), own b4 [.int .i64 0, .int .i64 0, .slice none 0 0, .int .i64 0, .int .i64 0, .bool false] 60, own b2 [.int .i64 a.rows, .int .i64 a.cols, .slice sa sm sc, .int .i64 a.row, .int .i64 a.col, .bool a.vis] 60])
              (fun g => g.1 ≤ L.length ∧ applyL g.2.1 g.2.2 (rs.drop g.1) = applyL C 0 rs ∧ g.2.1.length = C.length ∧ g.2.2 ≤ C.length) (fun g => L.length - g.1) (0, C, 0) ⟨by simp, by simp, rfl, by simp⟩ ⟨rfl, rfl, trivial⟩ rfl ?_
            rintro ⟨j, B, p⟩ u ⟨hj, hA, hBl, hp⟩
            dsimp only at hj hA hBl hp ⊢
            refine Body.seq ?_
            refine Body.region ?_
            refine Ops.u (Dtu.lss (lk rfl) (lk rfl)) rfl ?_
            refine Ops.nil ?_
            refine Then.next ?_
            refine Body.seq ?_
            refine Body.condP (lk rfl) (fun c67 => ?_) (fun c67 => ?_)
            · have hmj : (L.map RunV.own)[j]? = some (osl 127 4 (.slice L[j]!.a L[j]!.m L[j]!.c) L[j]!.cells.length (L[j]!.cells.flatMap Cell.enc)) := by
                rw [List.getElem?_map, getElem!_pos L j (by omega), List.getElem?_eq_getElem (by omega)]; rfl
              have hrj : rs.drop j = L[j]!.val :: rs.drop (j + 1) := by
                rw [← hL, ← List.map_drop, ← List.map_drop, List.drop_eq_getElem_cons (by omega : j < L.length), getElem!_pos L j (by omega)]; rfl
              have hfj : RunFine L[j]!.val := hfine _ (by rw [← hL]; exact List.mem_map_of_mem (by rw [getElem!_pos L j (by omega)]; exact List.getElem_mem _))
              refine Body.pure (Sl.litLen (Sl.many 3 j rfl hmj)) fun hmm => ?_
              refine Body.pure (Sl.len (Sl.osl 2 rfl)) fun hLl => ?_
              have f1 : 0 ≤ L[j]!.k := hfj.1.1
              have f2 : L[j]!.k ≤ 24000 := hfj.1.2
              obtain ⟨kk, hkk⟩ := Int.eq_ofNat_of_zero_le f1
              have hAe : applyL B p (rs.drop j) = if B.length < p + kk ∨ B.length - (p + kk) < L[j]!.cells.length then [] else applyL (lay B (p + kk) L[j]!.cells) (p + kk + L[j]!.cells.length) (rs.drop (j + 1)) := by
                rw [hrj]
                show applyL B p ((L[j]!.k, L[j]!.cells) :: rs.drop (j + 1)) = _
                rw [hkk]; rfl
              have hpk : (p : Int) + L[j]!.k = ((p + kk : Nat) : Int) := by omega
              refine Body.skip ?_
              refine Then.next ?_
              refine Body.seq ?_
              refine Body.block ?_
              refine Body.seq ?_
              refine Body.region ?_
              refine Ops.u (Dtu.ix (i := (j)) Try.underlying165 Try.sizeOf169 (Sl.osl 2 rfl) (lk rfl) (lk rfl) (by omega) (by omega)) rfl ?_
              refine Ops.d (Det.lda Try.isAgg169 Try.sizeOf169 (lk rfl) (Rds.sl (Sl.osl 2 rfl) (gf (sz := 2) (fun _ => rfl) (by omega))) rfl) rfl ?_
              refine Ops.s (Stp.alloc ty169 (fun b11 => ?_)) rfl
              refine Ops.e (Stp.store 0 Try.sizeOf169 (lk rfl) (lk rfl) rfl rfl rfl rfl rfl rfl rfl ?_)
              refine Ops.nil ?_
              refine Then.next ?_
              refine Body.seq ?_
              refine Body.region ?_
              refine Ops.u (Dtu.mv (lk rfl)) rfl ?_
              refine Ops.u (Dtu.fld fa169_0 (lk rfl)) rfl ?_
              refine Ops.d (Det.ld Try.isAgg3 (lk rfl) (Rd.ow 0 rfl rfl)) rfl ?_
              refine Ops.u (Dtu.add (lk rfl) (lk rfl) (w64 (by omega) (by omega))) rfl ?_
              refine Ops.u (Dtu.asg (lk rfl)) rfl ?_
              refine Ops.nil ?_
              refine Then.next ?_
              refine Body.seq ?_
              refine Body.seq ?_
              refine Body.region ?_
              refine Ops.u (Dtu.mv (lk rfl)) rfl ?_
              refine Ops.u (Dtu.fld fa60_2 (lk rfl)) rfl ?_
              refine Ops.d (Det.ld Try.isAgg58 (lk rfl) (Rd.ow 2 rfl rfl)) rfl ?_
              refine Ops.u (Dtu.lenS Try.underlying58 (Sl.osl 1 rfl) (lk rfl)) rfl ?_
              refine Ops.u (Dtu.gtr (lk rfl) (lk rfl)) rfl ?_
              refine Ops.u (Dtu.mv (lk rfl)) rfl ?_
              refine Ops.decP 79 rfl (fun c79 => ?_) (fun c79 => ?_)
              · refine Ops.gn rfl rfl rfl rfl rfl ?_
                refine Ops.gn rfl rfl rfl rfl rfl ?_
                refine Ops.gn rfl rfl rfl rfl rfl ?_
                refine Ops.gn rfl rfl rfl rfl rfl ?_
                refine Ops.gn rfl rfl rfl rfl rfl ?_
                refine Ops.gn rfl rfl rfl rfl rfl ?_
                refine Ops.gn rfl rfl rfl rfl rfl ?_
                refine Ops.gn rfl rfl rfl rfl rfl ?_
                refine Ops.gn rfl rfl rfl rfl rfl ?_
                refine Ops.u (Dtu.pickT (lk rfl) (lk rfl)) rfl ?_
                refine Ops.nil ?_
                refine Then.next ?_
                refine Body.condT (lk rfl) ?_
                refine Body.seq ?_
                refine Body.region ?_
                refine Ops.u (Dtu.fld fa60_2 (lk rfl)) rfl ?_
                refine Ops.e (Stp.store 2 Try.sizeOf58 (lk rfl) (lk rfl) rfl rfl rfl rfl rfl rfl rfl ?_)
                refine Ops.nil ?_
                refine Then.next ?_
                refine Body.exit ?_
                refine Then.exit ?_
                refine Blk.past rfl ?_
                refine Then.exit ?_
                refine Round.exit ?_
                refine Blk.here ?_
                refine Joint.goW ([], none, 0, 0) rfl rfl rfl trivial (fun w s => osl_nil (pk [2, 4, 4] rfl w s)) ?_
                rw [← hA, hAe, if_pos (.inl (by omega))]
              · refine Ops.gu rfl rfl rfl (Dtu.fld fa169_1 (lk rfl)) rfl ?_
                refine Ops.gd rfl rfl rfl (Det.ld Try.isAgg58 (lk rfl) (Rd.ow 0 rfl rfl)) rfl ?_
                refine Ops.gu rfl rfl rfl (Dtu.lenS Try.underlying58 (Sl.many 4 _ rfl hmj) (lk rfl)) rfl ?_
                refine Ops.gu rfl rfl rfl (Dtu.fld fa60_2 (lk rfl)) rfl ?_
                refine Ops.gd rfl rfl rfl (Det.ld Try.isAgg58 (lk rfl) (Rd.ow 2 rfl rfl)) rfl ?_
                refine Ops.gu rfl rfl rfl (Dtu.lenS Try.underlying58 (Sl.osl 1 rfl) (lk rfl)) rfl ?_
                refine Ops.gu rfl rfl rfl (Dtu.mv (lk rfl)) rfl ?_
                refine Ops.gu rfl rfl rfl (Dtu.sub (lk rfl) (lk rfl) (w64 (by omega) (by omega))) rfl ?_
                refine Ops.gu rfl rfl rfl (Dtu.gtr (lk rfl) (lk rfl)) rfl ?_
                refine Ops.u (Dtu.pickF (lk rfl) (lk rfl)) rfl ?_
                refine Ops.nil ?_
                refine Then.next ?_
                refine Body.condP (lk rfl) (fun c89 => ?_) (fun c89 => ?_)
                · refine Body.seq ?_
                  refine Body.region ?_
                  refine Ops.u (Dtu.fld fa60_2 (lk rfl)) rfl ?_
                  refine Ops.e (Stp.store 2 Try.sizeOf58 (lk rfl) (lk rfl) rfl rfl rfl rfl rfl rfl rfl ?_)
                  refine Ops.nil ?_
                  refine Then.next ?_
                  refine Body.exit ?_
                  refine Then.exit ?_
                  refine Blk.past rfl ?_
                  refine Then.exit ?_
                  refine Round.exit ?_
                  refine Blk.here ?_
                  refine Joint.goW ([], none, 0, 0) rfl rfl rfl trivial (fun w s => osl_nil (pk [2, 4, 4] rfl w s)) ?_
                  rw [← hA, hAe, if_pos (.inr (by omega))]
                · refine Body.skip ?_
                  refine Then.next ?_
                  refine Body.seq ?_
                  refine Body.draw mixed ?_
                  refine AB.u 0 rfl (by decide +kernel) (Dtu.fld fa60_2 (lk rfl)) rfl ?_
                  refine AB.d 1 rfl (by decide +kernel) rfl (Det.ld Try.isAgg58 (lk rfl) (Rd.ow 2 rfl rfl)) rfl ?_
                  refine AB.u 2 rfl (by decide +kernel) (Dtu.mv (lk rfl)) rfl ?_
                  refine AB.u 3 rfl (by decide +kernel) (Dtu.slL (p + L[j]!.k.toNat) Try.underlying58 Try.sizeOf127 (Sl.osl 1 rfl) (lk rfl) (lk rfl) (by omega) (by omega)) rfl ?_
                  refine AB.u 4 rfl (by decide +kernel) (Dtu.fld fa169_1 (lk rfl)) rfl ?_
                  refine AB.d 5 rfl (by decide +kernel) rfl (Det.ld Try.isAgg58 (lk rfl) (Rd.ow 0 rfl rfl)) rfl ?_
                  refine AB.s 6 rfl (by decide +kernel) (by decide +kernel) (Stp.copyF (enc := Cell.enc) (sz := 4) 1 (fun _ => rfl) Try.underlying58 Try.sizeOf127 rfl (lk rfl) (LiesIn.sub' (Sl.osl 1 rfl) (by omega) (by omega)) (by omega) (lk rfl) (Sl.many 4 _ rfl hmj) (fun _ => rfl) rfl ?_) rfl
                  have htn : L[j]!.k.toNat = kk := by omega
                  have hmin : Nat.min L[j]!.cells.length (B.length - (p + kk)) = L[j]!.cells.length := Nat.min_eq_left (by omega)
                  refine AB.done (by decide +kernel) ?_
                  refine Then.next ?_
                  refine Body.region ?_
                  refine Ops.u (Dtu.mv (lk rfl)) rfl ?_
                  refine Ops.u (Dtu.fld fa169_1 (lk rfl)) rfl ?_
                  refine Ops.d (Det.ld Try.isAgg58 (lk rfl) (Rd.ow 0 rfl rfl)) rfl ?_
                  refine Ops.u (Dtu.lenS Try.underlying58 (Sl.many 4 _ rfl hmj) (lk rfl)) rfl ?_
                  refine Ops.u (Dtu.add (lk rfl) (lk rfl) (w64 (by omega) (by omega))) rfl ?_
                  refine Ops.u (Dtu.asg (lk rfl)) rfl ?_
                  refine Ops.nil ?_
                  refine Blk.norm ?_
                  refine Then.next ?_
                  refine Body.region ?_
                  refine Ops.u (Dtu.add (lk rfl) (lk rfl) (w64 (by omega) (by omega))) rfl ?_
                  refine Ops.u (Dtu.mv (lk rfl)) rfl ?_
                  refine Ops.nil ?_
                  refine Round.goK [1, 1, 1, 1, 1, 1] (j + 1, lay B (p + kk) L[j]!.cells, p + kk + L[j]!.cells.length) rfl rfl rfl ⟨int_eq (by simp), int_eq (by dsimp only; omega), trivial⟩ rfl ?_ ⟨by dsimp only; omega, ?_, ?_, by dsimp only; omega⟩ (by dsimp only; omega)
                  · dsimp only
                    rw [lay_len (by omega), htn, hmin, List.take_length]; rfl
                  · dsimp only
                    rw [← hA, hAe, if_neg (by omega)]
                  · dsimp only
                    rw [lay_len (by omega)]; exact hBl
            · have hjL : j = L.length := by omega
              have hAB : applyL C 0 rs = B := by
                rw [← hA, List.drop_eq_nil_of_le (by rw [← hL]; simp; omega)]; rfl
              refine Body.exit ?_
              refine Then.exit ?_
              refine Round.exit ?_
              refine Blk.here ?_
              exact Joint.goK [0, 0, 2, 2] (B, w1, w2, w3) rfl rfl rfl trivial rfl rfl hAB
          · rintro ⟨B, w1, w2, w3⟩ u hB
            dsimp only at hB ⊢
            rw [hB] at hW
            have hBfl : ∀ c ∈ B, c.Fl := by rw [← hB]; exact applyL_fl rs C 0 hBf hfine
            generalize applyW a bs rs = V at *
            subst hW
            cases hkb : View.ok ⟨bs[0]!, bs[1]!, B, bs[2]!, bs[3]!, decide (bs[4]! = 1)⟩ with
            | false =>
              rw [if_neg (by rw [hkb]; simp)] at hV
              rw [hV]
              refine Body.seq ?_
              refine Body.seq ?_
              refine Body.region ?_
              refine Ops.d (Det.lda Try.isAgg60 Try.sizeOf60 (lk rfl) (Rds.ow (m := 6) 3 rfl rfl) rfl) rfl ?_
              refine Ops.d (Det.lda Try.isAgg60 Try.sizeOf60 (lk rfl) (Rds.ow (m := 6) 1 rfl rfl) rfl) rfl ?_
              refine Ops.s (Stp.call rfl Try.call70 (lks rfl) (fun E' le hat => diff_no E' a ⟨bs[0]!, bs[1]!, B, bs[2]!, bs[3]!, decide (bs[4]! = 1)⟩ _ _ (Sl.mono ha le) (Sl.at (hat _ (.head _))) (by rw [hkb]; simp)) ?_) rfl
              rintro _ _ ⟨rfl, rfl⟩
              refine Ops.u (Dtu.mv (lk rfl)) rfl ?_
              refine Ops.u (Dtu.ext (lk rfl) rfl) rfl ?_
              refine Ops.u (Dtu.ext (lk rfl) rfl) rfl ?_
              refine Ops.u (Dtu.asg (lk rfl)) rfl ?_
              refine Ops.u (Dtu.asg (lk rfl)) rfl ?_
              refine Ops.nil ?_
              refine Then.next ?_
              refine Body.seq ?_
              refine Body.region ?_
              refine Ops.u (Dtu.mv (lk rfl)) rfl ?_
              refine Ops.u (Dtu.neq (lk rfl) (lk rfl)) rfl ?_
              refine Ops.u (Dtu.mv (lk rfl)) rfl ?_
              refine Ops.decP 112 rfl (fun _ => ?_) (fun hn => absurd (by first | omega | assumption | decide) hn)
              refine Ops.gn rfl rfl rfl rfl rfl ?_
              refine Ops.gn rfl rfl rfl rfl rfl ?_
              refine Ops.gn rfl rfl rfl rfl rfl ?_
              refine Ops.gn rfl rfl rfl rfl rfl ?_
              refine Ops.u (Dtu.pickT (lk rfl) (lk rfl)) rfl ?_
              refine Ops.nil ?_
              refine Then.next ?_
              refine Body.condT (lk rfl) ?_
              refine Body.seq ?_
              refine Body.region ?_
              refine Ops.u (Dtu.build ty60 pl60 (lkp rfl) rfl rfl) rfl ?_
              refine Ops.e (Stp.store 2 Try.sizeOf60 (lk rfl) (lk rfl) rfl rfl rfl rfl rfl rfl rfl ?_)
              refine Ops.u (Dtu.asg (lk rfl)) rfl ?_
              refine Ops.nil ?_
              refine Then.next ?_
              refine Body.ret ?_
              refine Then.ret ?_
              exact ⟨.inr rfl, _, Loads.agg Try.isAgg60 Try.sizeOf60 (Rds.ow (m := 6) 2 rfl rfl) rfl, _, pk [] rfl, rfl, rfl⟩
            | true =>
              have hbt := difB_byt (a := a) hkb hBfl
              refine Body.seq ?_
              refine Body.seq ?_
              refine Body.region ?_
              refine Ops.d (Det.lda Try.isAgg60 Try.sizeOf60 (lk rfl) (Rds.ow (m := 6) 3 rfl rfl) rfl) rfl ?_
              refine Ops.d (Det.lda Try.isAgg60 Try.sizeOf60 (lk rfl) (Rds.ow (m := 6) 1 rfl rfl) rfl) rfl ?_
              refine Ops.s (Stp.call rfl Try.call70 (lks rfl) (fun E' le hat => diff_ok E' a ⟨bs[0]!, bs[1]!, B, bs[2]!, bs[3]!, decide (bs[4]! = 1)⟩ _ _ (Sl.mono ha le) (Sl.at (hat _ (.head _))) hk hkb) ?_) rfl
              rintro _ _ ⟨s107, rfl, rfl⟩
              refine Ops.u (Dtu.mv (lk rfl)) rfl ?_
              refine Ops.u (Dtu.ext (lk rfl) rfl) rfl ?_
              refine Ops.u (Dtu.ext (lk rfl) rfl) rfl ?_
              refine Ops.u (Dtu.asg (lk rfl)) rfl ?_
              refine Ops.u (Dtu.asg (lk rfl)) rfl ?_
              refine Ops.nil ?_
              refine Then.next ?_
              refine Body.seq ?_
              refine Body.region ?_
              refine Ops.u (Dtu.mv (lk rfl)) rfl ?_
              refine Ops.u (Dtu.neq (lk rfl) (lk rfl)) rfl ?_
              refine Ops.u (Dtu.mv (lk rfl)) rfl ?_
              refine Ops.decP 112 rfl (fun hy => absurd hy (by first | omega | assumption | decide)) (fun _ => ?_)
              refine Ops.gu rfl rfl rfl (Dtu.mv (lk rfl)) rfl ?_
              refine Ops.gu rfl rfl rfl (Dtu.mv (lk rfl)) rfl ?_
              refine Ops.gs rfl rfl rfl (Stp.call rfl Try.call78 (lks rfl) (fun E' le hat => bytesEqual_ok E' _ _ _ _ (by first | exact Sl.mono (by assumption) le | exact Sl.hatI hat 0 rfl | exact Sl.hatI hat 1 rfl | exact Sl.hatI hat 2 rfl | exact Sl.hatI hat 3 rfl | exact Sl.hatI hat 4 rfl | exact Sl.hatI hat 5 rfl | exact Sl.hatI hat 6 rfl | exact Sl.hatI hat 7 rfl | exact Sl.hatI hat 8 rfl | exact Sl.hatI hat 9 rfl | exact Sl.hatI hat 10 rfl | exact Sl.hatI hat 11 rfl | exact Sl.hatI hat 12 rfl | exact Sl.hatI hat 13 rfl | exact Sl.hatI hat 14 rfl | exact Sl.hatI hat 15 rfl | exact Sl.hatW hat 0 rfl | exact Sl.hatW hat 1 rfl | exact Sl.hatW hat 2 rfl | exact Sl.hatW hat 3 rfl | exact Sl.hatW hat 4 rfl | exact Sl.hatW hat 5 rfl | exact Sl.hatW hat 6 rfl | exact Sl.hatW hat 7 rfl | exact Sl.hatW hat 8 rfl | exact Sl.hatW hat 9 rfl) (by first | exact Sl.mono (by assumption) le | exact Sl.hatI hat 0 rfl | exact Sl.hatI hat 1 rfl | exact Sl.hatI hat 2 rfl | exact Sl.hatI hat 3 rfl | exact Sl.hatI hat 4 rfl | exact Sl.hatI hat 5 rfl | exact Sl.hatI hat 6 rfl | exact Sl.hatI hat 7 rfl | exact Sl.hatI hat 8 rfl | exact Sl.hatI hat 9 rfl | exact Sl.hatI hat 10 rfl | exact Sl.hatI hat 11 rfl | exact Sl.hatI hat 12 rfl | exact Sl.hatI hat 13 rfl | exact Sl.hatI hat 14 rfl | exact Sl.hatI hat 15 rfl | exact Sl.hatW hat 0 rfl | exact Sl.hatW hat 1 rfl | exact Sl.hatW hat 2 rfl | exact Sl.hatW hat 3 rfl | exact Sl.hatW hat 4 rfl | exact Sl.hatW hat 5 rfl | exact Sl.hatW hat 6 rfl | exact Sl.hatW hat 7 rfl | exact Sl.hatW hat 8 rfl | exact Sl.hatW hat 9 rfl) (by assumption) (by assumption)) ?_) rfl
              rintro _ _ ⟨rfl, rfl⟩
              refine Ops.gu rfl rfl rfl (Dtu.notP (lk rfl)) rfl ?_
              refine Ops.u (Dtu.pickF (lk rfl) (lk rfl)) rfl ?_
              refine Ops.nil ?_
              refine Then.next ?_
              refine Body.condP (lk rfl) (fun c117 => ?_) (fun c117 => ?_)
              · rw [if_neg (fun h => c117 h.2)] at hV
                rw [hV]
                refine Body.seq ?_
                refine Body.region ?_
                refine Ops.u (Dtu.build ty60 pl60 (lkp rfl) rfl rfl) rfl ?_
                refine Ops.e (Stp.store 3 Try.sizeOf60 (lk rfl) (lk rfl) rfl rfl rfl rfl rfl rfl rfl ?_)
                refine Ops.u (Dtu.asg (lk rfl)) rfl ?_
                refine Ops.nil ?_
                refine Then.next ?_
                refine Body.ret ?_
                refine Then.ret ?_
                exact ⟨.inr rfl, _, Loads.agg Try.isAgg60 Try.sizeOf60 (Rds.ow (m := 6) 3 rfl rfl) rfl, _, pk [] rfl, rfl, rfl⟩
              · rw [if_pos ⟨hkb, Decidable.of_not_not c117⟩] at hV
                rw [hV]
                refine Body.skip ?_
                refine Then.next ?_
                refine Body.seq ?_
                refine Body.region ?_
                refine Ops.d (Det.lda Try.isAgg60 Try.sizeOf60 (lk rfl) (Rds.ow (m := 6) 2 rfl rfl) rfl) rfl ?_
                refine Ops.e (Stp.store 3 Try.sizeOf60 (lk rfl) (lk rfl) rfl rfl rfl rfl rfl rfl rfl ?_)
                refine Ops.u (Dtu.asg (lk rfl)) rfl ?_
                refine Ops.nil ?_
                refine Then.next ?_
                refine Body.ret ?_
                exact ⟨.inr rfl, _, Loads.agg Try.isAgg60 Try.sizeOf60 (Rds.ow (m := 6) 3 rfl rfl) rfl, _, pk [1] rfl, .slice w1 w2 w3, rfl, rfl⟩
end Go.Proofs.Ytagcpamchgpgiaa
end
section
/- Patches: there and back; how many runs and bytes. -/
namespace Go.Proofs.Ytagcpamchgpgiaa
set_option maxRecDepth 100000
set_option linter.unusedVariables false
set_option linter.unusedSimpArgs false
open Go.Sx

theorem readN_put : ∀ (xs cs : List Cell) (l r : List Int), (∀ c ∈ xs, c.ok = true) → readN (l ++ (xs.flatMap Cell.bytes ++ r)) xs.length cs l.length = some (cs ++ xs, ((l.length + (xs.flatMap Cell.bytes).length : Nat) : Int))
  | [], cs, l, r, _ => by simp [readN]
  | c :: t, cs, l, r, h => by
    have hc := cellR_put l (t.flatMap Cell.bytes ++ r) (h c (by simp))
    have e : l ++ ((c :: t).flatMap Cell.bytes ++ r) = l ++ (c.bytes ++ (t.flatMap Cell.bytes ++ r)) := by simp
    rw [e, List.length_cons, readN, hc]
    simp only [ne_eq, not_true_eq_false, if_false]
    have ih := readN_put t (cs ++ [c]) (l ++ c.bytes) r (fun d hd => h d (by simp [hd]))
    rw [List.length_append, Cell.bytes_len, List.append_assoc] at ih
    rw [show ((l.length : Int) + c.size) = ((l.length + c.size : Nat) : Int) by omega, ih]
    simp [Cell.bytes_len]; omega
def runI (r : Nat × List Cell) : Run := (min (r.1 : Int) 24000, r.2)
theorem readRs_put : ∀ (R : List (Nat × List Cell)) (k : Nat) (rs : List Run) (l : List Int), (∀ r ∈ R, r.1 < 1000000 ∧ r.2.length < 1000000 ∧ r.2 ≠ [] ∧ ∀ c ∈ r.2, c.ok = true) → R.length < k →
    readRs (l ++ R.flatMap encR) k rs l.length = some (rs ++ R.map runI)
  | [], k + 1, rs, l, _, _ => by
    simp [readRs]
  | r :: t, k + 1, rs, l, h, hk => by
    obtain ⟨h1, h2, h3, h4⟩ := h r (by simp)
    have hz : 1 ≤ sizeS (r.1 : Int) := sizeS_pos (by omega)
    have hn : 0 < r.2.length := List.length_pos_iff.2 h3
    have e : l ++ (r :: t).flatMap encR = l ++ (putL r.1 ++ (putL r.2.length ++ (r.2.flatMap Cell.bytes ++ t.flatMap encR))) := by simp [encR]
    have g1 := getS_put l (putL r.2.length ++ (r.2.flatMap Cell.bytes ++ t.flatMap encR)) (v := (r.1 : Int)) (by omega) (by omega)
    have g2 := getS_put (l ++ putL r.1) (r.2.flatMap Cell.bytes ++ t.flatMap encR) (v := (r.2.length : Int)) (by omega) (by omega)
    have g3 := readN_put r.2 [] (l ++ putL r.1 ++ putL r.2.length) (t.flatMap encR) h4
    rw [List.append_assoc, List.length_append, putL_len] at g2
    rw [List.append_assoc, List.append_assoc, List.length_append, List.length_append, putL_len, putL_len] at g3
    have ih := readRs_put t k (rs ++ [runI r]) (l ++ encR r) (fun x hx => h x (by simp [hx])) (by simp at hk; omega)
    have el : (l ++ encR r).length = l.length + sizeS (r.1 : Int) + sizeS (r.2.length : Int) + (r.2.flatMap Cell.bytes).length := by simp [encR, putL_len]; omega
    have e2 : (l ++ encR r) ++ t.flatMap encR = l ++ (r :: t).flatMap encR := by simp
    rw [e2, el] at ih
    rw [readRs, if_pos (by rw [e]; simp [putL_len]; omega)]
    rw [e]
    rw [e] at ih
    rw [g1]
    simp only [ne_eq, not_true_eq_false, if_false]
    rw [show ((l.length : Int) + sizeS (r.1 : Int)) = ((l.length + sizeS (r.1 : Int) : Nat) : Int) by omega, g2]
    rw [if_neg (by simp; exact h3)]
    dsimp only
    rw [Int.toNat_natCast, show ((l.length + sizeS (r.1 : Int) : Nat) : Int) + (sizeS (r.2.length : Int) : Int) = ((l.length + sizeS (r.1 : Int) + sizeS (r.2.length : Int) : Nat) : Int) by omega, g3]
    dsimp only [List.nil_append]
    have : (rs ++ [(min (r.1 : Int) 24000, r.2)]) = rs ++ [runI r] := rfl
    rw [this, ih]
    simp
theorem difR_some : ∀ (ps : List (Cell × Cell)) (k : Nat) (run : List Cell) (r : Nat × List Cell), r ∈ difR k run ps → r.2 ≠ []
  | [], k, run, r, h => by
    simp only [difR] at h
    split at h
    · cases h
    · rename_i hr
      rw [List.mem_singleton.1 h]; exact hr
  | (x, y) :: t, k, run, r, h => by
    simp only [difR] at h
    split at h
    · split at h
      · exact difR_some t _ _ r h
      · rename_i hr
        rcases List.mem_cons.1 h with rfl | h
        · exact hr
        · exact difR_some t _ _ r h
    · exact difR_some t _ _ r h
theorem applyL_dif : ∀ (ps : List (Cell × Cell)) (k : Nat) (X S R run : List Cell), S.length = k → R.length = run.length → k + ps.length + run.length ≤ 24000 →
    applyL (X ++ (S ++ (R ++ ps.map Prod.fst))) X.length ((difR k run ps).map runI) = X ++ (S ++ (run ++ ps.map Prod.snd))
  | [], k, X, S, R, run, hS, hR, hb => by
    simp only [difR]
    split
    · rename_i h
      subst h
      have : R = [] := List.length_eq_zero_iff.1 (by simpa using hR)
      subst this
      simp [applyL]
    · simp only [List.map_cons, List.map_nil, applyL, runI]
      have hm : (min (k : Int) 24000).toNat = k := by simp at hb; omega
      rw [hm, if_neg (by simp; omega)]
      unfold lay
      rw [show X ++ (S ++ (R ++ [])) = (X ++ S) ++ R by simp, List.take_left' (by simp; omega), List.drop_of_length_le (by simp; omega)]
      simp
  | (x, y) :: t, k, X, S, R, run, hS, hR, hb => by
    simp only [difR]
    simp only [List.length_cons] at hb
    split
    · rename_i hxy
      subst hxy
      split
      · rename_i h
        subst h
        have : R = [] := List.length_eq_zero_iff.1 (by simpa using hR)
        subst this
        have ih := applyL_dif t (k + 1) X (S ++ [x]) [] [] (by simp; omega) rfl (by simp; omega)
        simpa using ih
      · simp only [List.map_cons, applyL, runI]
        have hm : (min (k : Int) 24000).toNat = k := by omega
        rw [hm, if_neg (by simp; omega)]
        have ih := applyL_dif t 1 (X ++ (S ++ run)) [x] [] [] rfl rfl (by simp; omega)
        have el : lay (X ++ (S ++ (R ++ x :: t.map Prod.fst))) (X.length + k) run = X ++ (S ++ run) ++ ([x] ++ ([] ++ t.map Prod.fst)) := by
          unfold lay
          rw [show X ++ (S ++ (R ++ x :: t.map Prod.fst)) = (X ++ S) ++ (R ++ x :: t.map Prod.fst) by simp, List.take_left' (by simp; omega)]
          rw [show (X ++ S) ++ (R ++ x :: t.map Prod.fst) = (X ++ S ++ R) ++ (x :: t.map Prod.fst) by simp, List.drop_left' (by simp; omega)]
          simp
        rw [el, show X.length + k + run.length = (X ++ (S ++ run)).length by simp; omega, ih]
        simp
    · have ih := applyL_dif t k X S (R ++ [x]) (run ++ [y]) hS (by simp; omega) (by simp; omega)
      simpa using ih
end Go.Proofs.Ytagcpamchgpgiaa
end
section
/- Patches: the laws. -/
namespace Go.Proofs.Ytagcpamchgpgiaa
set_option maxRecDepth 100000
set_option linter.unusedVariables false
set_option linter.unusedSimpArgs false
open Go.Sx

theorem baseC_full {a b : View} (ha : a.ok = true) (hb : b.ok = true) : (baseC a b.rows b.cols).length = b.cells.length := by
  have fa := (View.ok_fits ha).1
  have fb := (View.ok_fits hb).1
  have := mul_bound fb.1
  unfold baseC
  split
  · rename_i h; have := fa.2.2.2.2.2; have := fb.2.2.2.2.2; rw [h.1, h.2] at *; omega
  · rw [List.length_replicate]; have := fb.2.2.2.2.2; omega
theorem ok_480 {b : View} (hb : b.ok = true) : 1 ≤ b.cells.length ∧ b.cells.length ≤ 480 := by
  have fb := (View.ok_fits hb).1
  have := mul_bound fb.1
  have := fb.2.2.2.2.2
  omega
/-- what becomes what -/
def difP (a b : View) : List (Cell × Cell) := (baseC a b.rows b.cols).zip b.cells
theorem difP_len {a b : View} (ha : a.ok = true) (hb : b.ok = true) : (difP a b).length = b.cells.length := by
  unfold difP; rw [List.length_zip, baseC_full ha hb]; omega
theorem difR_fine {a b : View} (ha : a.ok = true) (hb : b.ok = true) (r : Nat × List Cell) (h : r ∈ difR 0 [] (difP a b)) : (r.1 ≤ 481 ∧ r.2.length ≤ 480) ∧ r.2 ≠ [] ∧ ∀ c ∈ r.2, c.ok = true := by
  have hl := difP_len ha hb
  have h4 := ok_480 hb
  obtain ⟨h1, h2, h3⟩ := difR_bound _ _ _ r h
  refine ⟨⟨by omega, by simp at h2; omega⟩, difR_some _ _ _ r h, fun c hc => ?_⟩
  rcases h3 c hc with h | h
  · cases h
  · obtain ⟨p, hp, rfl⟩ := List.mem_map.1 h
    exact (View.ok_fits hb).2 _ (List.of_mem_zip hp).2
theorem head_len (b : View) : b.head.length = 5 := rfl
theorem encR_pos (r : Nat × List Cell) (h : r.1 < 1000000) : 1 ≤ (encR r).length := by
  have : 1 ≤ sizeS (r.1 : Int) := sizeS_pos (by omega)
  simp [encR, putL_len]; omega
theorem flat_many {R : List (Nat × List Cell)} (h : ∀ r ∈ R, r.1 < 1000000) : R.length ≤ (R.flatMap encR).length := by
  induction R with
  | nil => simp
  | cons r t ih =>
    have := encR_pos r (h r (by simp))
    have := ih fun x hx => h x (by simp [hx])
    simp only [List.flatMap_cons, List.length_append, List.length_cons]; omega
theorem difB_runs {a b : View} (ha : a.ok = true) (hb : b.ok = true) : runsP (difB a b) = some ((difR 0 [] (difP a b)).map runI) := by
  have e : difB a b = b.head ++ (difR 0 [] (difP a b)).flatMap encR := rfl
  have hf := difR_fine ha hb
  have hm := flat_many (R := difR 0 [] (difP a b)) fun r hr => by have := (hf r hr).1; omega
  unfold runsP
  rw [if_neg (by rw [e, List.length_append, head_len]; omega)]
  have h := readRs_put (difR 0 [] (difP a b)) ((difB a b).length + 1) [] b.head (fun r hr => ⟨by have := (hf r hr).1; omega, by have := (hf r hr).1; omega, (hf r hr).2⟩) (by rw [e, List.length_append, head_len]; omega)
  rw [← e, head_len] at h
  simpa using h
theorem head_at {b : View} (l : List Int) : (b.head ++ l)[0]! = b.rows ∧ (b.head ++ l)[1]! = b.cols ∧ (b.head ++ l)[2]! = b.row ∧ (b.head ++ l)[3]! = b.col ∧ decide ((b.head ++ l)[4]! = 1) = b.vis := by
  refine ⟨rfl, rfl, rfl, rfl, ?_⟩
  have : (b.head ++ l)[4]! = if b.vis then 1 else 0 := rfl
  rw [this]; cases b.vis <;> rfl
theorem difB_at (a b : View) : (difB a b)[0]! = b.rows ∧ (difB a b)[1]! = b.cols ∧ (difB a b)[2]! = b.row ∧ (difB a b)[3]! = b.col ∧ decide ((difB a b)[4]! = 1) = b.vis := head_at _
theorem applyV_dif {a b : View} (ha : a.ok = true) (hb : b.ok = true) : applyV a (difB a b) = some b := by
  obtain ⟨e0, e1, e2, e3, e4⟩ := difB_at a b
  have fb := (View.ok_fits hb).1
  have hl := baseC_full ha hb
  have h4 := ok_480 hb
  have hA := applyL_dif (difP a b) 0 [] [] [] [] rfl rfl (by rw [difP_len ha hb]; simp; omega)
  have f1 : (difP a b).map Prod.fst = baseC a b.rows b.cols := by unfold difP; exact List.map_fst_zip (by omega)
  have f2 : (difP a b).map Prod.snd = b.cells := by unfold difP; exact List.map_snd_zip (by omega)
  simp only [List.nil_append, List.length_nil, f1, f2] at hA
  have hW : applyW a (difB a b) ((difR 0 [] (difP a b)).map runI) = b := by
    unfold applyW
    rw [e0, e1, e2, e3, e4, hA]
  unfold applyV
  rw [difB_runs ha hb]
  dsimp only
  rw [e0, e1, if_neg (by rintro (h | h); · rw [ha] at h; cases h
                         · have := fb.1; omega), hW, if_pos ⟨hb, rfl⟩]
/-- how many are others -/
def others : List (Cell × Cell) → Nat
  | [] => 0
  | p :: t => (if p.1 = p.2 then 0 else 1) + others t
theorem difR_few : ∀ (ps : List (Cell × Cell)) (k : Nat) (run : List Cell), (difR k run ps).length ≤ (if run = [] then 0 else 1) + others ps ∧ ((difR k run ps).flatMap Prod.snd).length = run.length + others ps
  | [], k, run => by
    simp only [difR, others]
    split
    · rename_i h; simp [h]
    · simp
  | (x, y) :: t, k, run => by
    simp only [difR, others]
    split
    · rename_i hxy
      split
      · rename_i h
        have ih := difR_few t (k + 1) []
        simp [h] at ih ⊢; exact ih
      · have ih := difR_few t 1 []
        simp at ih ⊢; omega
    · have ih := difR_few t k (run ++ [y])
      simp at ih ⊢
      refine ⟨?_, by omega⟩
      split <;> omega
theorem cells_len {l : List Cell} (h : ∀ c ∈ l, c.ok = true) : (l.flatMap Cell.bytes).length ≤ 13 * l.length := by
  induction l with
  | nil => simp
  | cons c t ih =>
    have := Cell.size_13 (h c (by simp))
    have := ih fun d hd => h d (by simp [hd])
    simp only [List.flatMap_cons, List.length_append, Cell.bytes_len, List.length_cons]; omega
theorem enc_len {R : List (Nat × List Cell)} (h : ∀ r ∈ R, (r.1 ≤ 481 ∧ r.2.length ≤ 480) ∧ r.2 ≠ [] ∧ ∀ c ∈ r.2, c.ok = true) : (R.flatMap encR).length ≤ 17 * (R.flatMap Prod.snd).length ∧ R.length ≤ (R.flatMap Prod.snd).length := by
  induction R with
  | nil => simp
  | cons r t ih =>
    obtain ⟨⟨h1, h2⟩, h3, h4⟩ := h r (by simp)
    have ih := ih fun x hx => h x (by simp [hx])
    have c1 := cells_len h4
    have s1 := sizeS_2 (v := (r.1 : Int)) (by omega)
    have s2 := sizeS_2 (v := (r.2.length : Int)) (by omega)
    have hp : 0 < r.2.length := List.length_pos_iff.2 h3
    simp only [List.flatMap_cons, List.length_append, List.length_cons, encR, putL_len]
    omega
theorem difB_len {a b : View} (ha : a.ok = true) (hb : b.ok = true) : (difB a b).length ≤ 5 + 17 * others (difP a b) ∧ (difR 0 [] (difP a b)).length ≤ others (difP a b) ∧ (0 < (difR 0 [] (difP a b)).length ↔ 5 < (difB a b).length) ∧ (0 < (difR 0 [] (difP a b)).length ↔ 0 < others (difP a b)) := by
  have e : (difB a b).length = 5 + ((difR 0 [] (difP a b)).flatMap encR).length := by
    have : difB a b = b.head ++ (difR 0 [] (difP a b)).flatMap encR := rfl
    rw [this, List.length_append, head_len]
  have hf := difR_fine ha hb
  have h1 := difR_few (difP a b) 0 []
  have h2 := enc_len hf
  have h3 := flat_many (R := difR 0 [] (difP a b)) fun r hr => by have := (hf r hr).1; omega
  simp only [if_true, List.length_nil, Nat.zero_add] at h1
  have h5 : (difR 0 [] (difP a b)).length = 0 → ((difR 0 [] (difP a b)).flatMap encR).length = 0 ∧ ((difR 0 [] (difP a b)).flatMap Prod.snd).length = 0 := fun h => by
    rw [List.length_eq_zero_iff.1 h]; simp
  rw [e]
  refine ⟨by omega, by omega, ?_, ?_⟩ <;> constructor <;> intro h <;> by_cases hz : (difR 0 [] (difP a b)).length = 0 <;> omega
theorem others_le (ps : List (Cell × Cell)) : others ps ≤ ps.length := by
  induction ps with
  | nil => simp [others]
  | cons p t ih => simp only [others, List.length_cons]; split <;> omega
end Go.Proofs.Ytagcpamchgpgiaa
end
section
/- Patches: the fixed calls of longlinelaw21.alive. -/
namespace Go.Proofs.Ytagcpamchgpgiaa
set_option maxRecDepth 100000
set_option linter.unusedVariables false
set_option linter.unusedSimpArgs false
open Go.Sx

theorem first_fl : ∀ c ∈ View.first.cells, c.Fl := by
  intro c hc
  have : c = ⟨32, 0, 0, 0⟩ := by simpa [View.first] using hc
  rw [this]; exact ⟨by decide, by decide⟩
end Go.Proofs.Ytagcpamchgpgiaa
end
section
/- States: which may be; which are the same. -/
namespace Go.Proofs.Ytagcpamchgpgiaa
set_option maxRecDepth 100000
set_option linter.unusedVariables false
set_option linter.unusedSimpArgs false
open Go.Sx

structure Stt where
  v : View
  title : ByteArray
  clip : ByteArray
  clips : Int
  bells : Int
def Stt.cells (x : Stt) (s : Value) : List Value := [.int .i64 x.v.rows, .int .i64 x.v.cols, s, .int .i64 x.v.row, .int .i64 x.v.col, .bool x.v.vis, .string x.title, .string x.clip, .int .u64 x.clips, .int .u64 x.bells]
def Stt.val (x : Stt) (s : Value) : Value := .agg (x.cells s).toArray
def Stt.ok (x : Stt) : Bool := x.v.ok && decide (x.title.size ≤ 64 ∧ x.clip.size ≤ 256 ∧ x.clips ≤ 4611686018427387903 ∧ x.bells ≤ 4611686018427387903)
theorem sright_ok (E : Env) (x : Stt) (s : Value) (h : x.v.has E [] s) : Does Try.prog 33 #[x.val s] E [] fun r H' => r = .bool x.ok ∧ H' = [] := by
  unfold View.has at h
  refine Does.pure h.isSl fun hs => ?_
  obtain ⟨sa, sm, sc, rfl⟩ := hs
  refine Does.go (args := [x.val _]) _ _ Try.func33 rfl Try.ntmps33 rfl rfl ?_
  refine Body.seq ?_
  refine Body.region ?_
  refine Ops.s (Stp.box (lk rfl) rfl (fun b1 => ?_)) rfl
  refine Ops.u (Dtu.asg (lk rfl)) rfl ?_
  refine Ops.nil ?_
  refine Then.next ?_
  refine Body.seq ?_
  refine Body.region ?_
  refine Ops.u (Dtu.fld fa62_0 (lk rfl)) rfl ?_
  refine Ops.d (Det.lda Try.isAgg60 Try.sizeOf60 (lk rfl) (Rds.ow (m := 6) 0 rfl rfl) rfl) rfl ?_
  refine Ops.s (Stp.call rfl Try.call62 (lks rfl) (fun E' le hat => right_ok E' ⟨_, _, _, _, _, _⟩ _ (Sl.mono (by assumption) le)) ?_) rfl
  rintro _ _ ⟨rfl, rfl⟩
  refine Ops.u (Dtu.mv (lk rfl)) rfl ?_
  refine Ops.dec 6 rfl (fun c6 => ?_) (fun c6 => ?_)
  · refine Ops.gu rfl rfl rfl (Dtu.fld fa62_1 (lk rfl)) rfl ?_
    refine Ops.gd rfl rfl rfl (Det.ld Try.isAgg9 (lk rfl) (Rd.ow 0 rfl rfl)) rfl ?_
    refine Ops.gu rfl rfl rfl (Dtu.lenStr Try.underlying9 (lk rfl)) rfl ?_
    refine Ops.gu rfl rfl rfl (Dtu.leq (lk rfl) (lk rfl)) rfl ?_
    refine Ops.u (Dtu.pickT (lk rfl) (lk rfl)) rfl ?_
    refine Ops.u (Dtu.mv (lk rfl)) rfl ?_
    refine Ops.decP 12 rfl (fun c12 => ?_) (fun c12 => ?_)
    · refine Ops.gu rfl rfl rfl (Dtu.fld fa62_2 (lk rfl)) rfl ?_
      refine Ops.gd rfl rfl rfl (Det.ld Try.isAgg9 (lk rfl) (Rd.ow 0 rfl rfl)) rfl ?_
      refine Ops.gu rfl rfl rfl (Dtu.lenStr Try.underlying9 (lk rfl)) rfl ?_
      refine Ops.gu rfl rfl rfl (Dtu.leq (lk rfl) (lk rfl)) rfl ?_
      refine Ops.u (Dtu.pickT (lk rfl) (lk rfl)) rfl ?_
      refine Ops.u (Dtu.mv (lk rfl)) rfl ?_
      refine Ops.decP 18 rfl (fun c18 => ?_) (fun c18 => ?_)
      · refine Ops.gu rfl rfl rfl (Dtu.fld fa62_3 (lk rfl)) rfl ?_
        refine Ops.gd rfl rfl rfl (Det.ld Try.isAgg22 (lk rfl) (Rd.ow 0 rfl rfl)) rfl ?_
        refine Ops.gu rfl rfl rfl (Dtu.leq (lk rfl) (lk rfl)) rfl ?_
        refine Ops.u (Dtu.pickT (lk rfl) (lk rfl)) rfl ?_
        refine Ops.u (Dtu.mv (lk rfl)) rfl ?_
        refine Ops.decP 23 rfl (fun c23 => ?_) (fun c23 => ?_)
        · refine Ops.gu rfl rfl rfl (Dtu.fld fa62_4 (lk rfl)) rfl ?_
          refine Ops.gd rfl rfl rfl (Det.ld Try.isAgg22 (lk rfl) (Rd.ow 0 rfl rfl)) rfl ?_
          refine Ops.gu rfl rfl rfl (Dtu.leq (lk rfl) (lk rfl)) rfl ?_
          refine Ops.u (Dtu.pickT (lk rfl) (lk rfl)) rfl ?_
          refine Ops.u (Dtu.asg (lk rfl)) rfl ?_
          refine Ops.nil ?_
          refine Then.next ?_
          refine Body.ret ?_
          (refine ⟨.inr rfl, _, pk [] rfl, bool_eq ?_, rfl⟩; show _ ↔ (View.ok ⟨x.v.rows, x.v.cols, x.v.cells, x.v.row, x.v.col, x.v.vis⟩ && decide _) = true; simp only [Bool.and_eq_true, decide_eq_true_eq, Bool.false_eq_true, Bool.true_eq_false, true_and, false_and, true_iff, false_iff, iff_true, iff_false, not_and, *] <;> first | omega | (intro _; omega) | simp | (constructor <;> intros <;> first | omega | (simp_all; omega)))
        · refine Ops.gn rfl rfl rfl rfl rfl ?_
          refine Ops.gn rfl rfl rfl rfl rfl ?_
          refine Ops.gn rfl rfl rfl rfl rfl ?_
          refine Ops.u (Dtu.pickF (lk rfl) (lk rfl)) rfl ?_
          refine Ops.u (Dtu.asg (lk rfl)) rfl ?_
          refine Ops.nil ?_
          refine Then.next ?_
          refine Body.ret ?_
          (refine ⟨.inr rfl, _, pk [] rfl, bool_eq ?_, rfl⟩; show _ ↔ (View.ok ⟨x.v.rows, x.v.cols, x.v.cells, x.v.row, x.v.col, x.v.vis⟩ && decide _) = true; simp only [Bool.and_eq_true, decide_eq_true_eq, Bool.false_eq_true, Bool.true_eq_false, true_and, false_and, true_iff, false_iff, iff_true, iff_false, not_and, *] <;> first | omega | (intro _; omega) | simp | (constructor <;> intros <;> first | omega | (simp_all; omega)))
      · refine Ops.gn rfl rfl rfl rfl rfl ?_
        refine Ops.gn rfl rfl rfl rfl rfl ?_
        refine Ops.gn rfl rfl rfl rfl rfl ?_
        refine Ops.u (Dtu.pickF (lk rfl) (lk rfl)) rfl ?_
        refine Ops.u (Dtu.mv (lk rfl)) rfl ?_
        refine Ops.gn rfl rfl rfl rfl rfl ?_
        refine Ops.gn rfl rfl rfl rfl rfl ?_
        refine Ops.gn rfl rfl rfl rfl rfl ?_
        refine Ops.u (Dtu.pickF (lk rfl) (lk rfl)) rfl ?_
        refine Ops.u (Dtu.asg (lk rfl)) rfl ?_
        refine Ops.nil ?_
        refine Then.next ?_
        refine Body.ret ?_
        (refine ⟨.inr rfl, _, pk [] rfl, bool_eq ?_, rfl⟩; show _ ↔ (View.ok ⟨x.v.rows, x.v.cols, x.v.cells, x.v.row, x.v.col, x.v.vis⟩ && decide _) = true; simp only [Bool.and_eq_true, decide_eq_true_eq, Bool.false_eq_true, Bool.true_eq_false, true_and, false_and, true_iff, false_iff, iff_true, iff_false, not_and, *] <;> first | omega | (intro _; omega) | simp | (constructor <;> intros <;> first | omega | (simp_all; omega)))
    · refine Ops.gn rfl rfl rfl rfl rfl ?_
      refine Ops.gn rfl rfl rfl rfl rfl ?_
      refine Ops.gn rfl rfl rfl rfl rfl ?_
      refine Ops.gn rfl rfl rfl rfl rfl ?_
      refine Ops.u (Dtu.pickF (lk rfl) (lk rfl)) rfl ?_
      refine Ops.u (Dtu.mv (lk rfl)) rfl ?_
      refine Ops.gn rfl rfl rfl rfl rfl ?_
      refine Ops.gn rfl rfl rfl rfl rfl ?_
      refine Ops.gn rfl rfl rfl rfl rfl ?_
      refine Ops.u (Dtu.pickF (lk rfl) (lk rfl)) rfl ?_
      refine Ops.u (Dtu.mv (lk rfl)) rfl ?_
      refine Ops.gn rfl rfl rfl rfl rfl ?_
      refine Ops.gn rfl rfl rfl rfl rfl ?_
      refine Ops.gn rfl rfl rfl rfl rfl ?_
      refine Ops.u (Dtu.pickF (lk rfl) (lk rfl)) rfl ?_
      refine Ops.u (Dtu.asg (lk rfl)) rfl ?_
      refine Ops.nil ?_
      refine Then.next ?_
      refine Body.ret ?_
      (refine ⟨.inr rfl, _, pk [] rfl, bool_eq ?_, rfl⟩; show _ ↔ (View.ok ⟨x.v.rows, x.v.cols, x.v.cells, x.v.row, x.v.col, x.v.vis⟩ && decide _) = true; simp only [Bool.and_eq_true, decide_eq_true_eq, Bool.false_eq_true, Bool.true_eq_false, true_and, false_and, true_iff, false_iff, iff_true, iff_false, not_and, *] <;> first | omega | (intro _; omega) | simp | (constructor <;> intros <;> first | omega | (simp_all; omega)))
  · refine Ops.gn rfl rfl rfl rfl rfl ?_
    refine Ops.gn rfl rfl rfl rfl rfl ?_
    refine Ops.gn rfl rfl rfl rfl rfl ?_
    refine Ops.gn rfl rfl rfl rfl rfl ?_
    refine Ops.u (Dtu.pickF (lk rfl) (lk rfl)) rfl ?_
    refine Ops.u (Dtu.mv (lk rfl)) rfl ?_
    refine Ops.gn rfl rfl rfl rfl rfl ?_
    refine Ops.gn rfl rfl rfl rfl rfl ?_
    refine Ops.gn rfl rfl rfl rfl rfl ?_
    refine Ops.gn rfl rfl rfl rfl rfl ?_
    refine Ops.u (Dtu.pickF (lk rfl) (lk rfl)) rfl ?_
    refine Ops.u (Dtu.mv (lk rfl)) rfl ?_
    refine Ops.gn rfl rfl rfl rfl rfl ?_
    refine Ops.gn rfl rfl rfl rfl rfl ?_
    refine Ops.gn rfl rfl rfl rfl rfl ?_
    refine Ops.u (Dtu.pickF (lk rfl) (lk rfl)) rfl ?_
    refine Ops.u (Dtu.mv (lk rfl)) rfl ?_
    refine Ops.gn rfl rfl rfl rfl rfl ?_
    refine Ops.gn rfl rfl rfl rfl rfl ?_
    refine Ops.gn rfl rfl rfl rfl rfl ?_
    refine Ops.u (Dtu.pickF (lk rfl) (lk rfl)) rfl ?_
    refine Ops.u (Dtu.asg (lk rfl)) rfl ?_
    refine Ops.nil ?_
    refine Then.next ?_
    refine Body.ret ?_
    (refine ⟨.inr rfl, _, pk [] rfl, bool_eq ?_, rfl⟩; show _ ↔ (View.ok ⟨x.v.rows, x.v.cols, x.v.cells, x.v.row, x.v.col, x.v.vis⟩ && decide _) = true; simp only [Bool.and_eq_true, decide_eq_true_eq, Bool.false_eq_true, Bool.true_eq_false, true_and, false_and, true_iff, false_iff, iff_true, iff_false, not_and, *] <;> first | omega | (intro _; omega) | simp | (constructor <;> intros <;> first | omega | (simp_all; omega)))
theorem clipping_ok (E : Env) (x : Stt) (a : Option Addr) (m c : Nat) : Does Try.prog 54 #[x.val (.slice a m c)] E [] fun r H' => r = .agg #[.string x.clip, .int .u64 x.clips] ∧ H' = [] := by
  refine Does.go (args := [x.val _]) _ _ Try.func54 rfl Try.ntmps54 rfl rfl ?_
  refine Body.seq ?_
  refine Body.region ?_
  refine Ops.s (Stp.box (lk rfl) rfl (fun b1 => ?_)) rfl
  refine Ops.s (Stp.alloc ty109 (fun b2 => ?_)) rfl
  refine Ops.nil ?_
  refine Then.next ?_
  refine Body.seq ?_
  refine Body.region ?_
  refine Ops.u (Dtu.fld fa62_2 (lk rfl)) rfl ?_
  refine Ops.d (Det.ld Try.isAgg9 (lk rfl) (Rd.ow 1 rfl rfl)) rfl ?_
  refine Ops.u (Dtu.fld fa62_3 (lk rfl)) rfl ?_
  refine Ops.d (Det.ld Try.isAgg22 (lk rfl) (Rd.ow 1 rfl rfl)) rfl ?_
  refine Ops.u (Dtu.build ty109 pl109 (lkp rfl) rfl rfl) rfl ?_
  refine Ops.e (Stp.store 0 Try.sizeOf109 (lk rfl) (lk rfl) rfl rfl rfl rfl rfl rfl rfl ?_)
  refine Ops.nil ?_
  refine Then.next ?_
  refine Body.ret ?_
  exact ⟨.inr rfl, _, Loads.agg Try.isAgg109 Try.sizeOf109 (Rds.ow (m := 2) 0 rfl rfl) rfl, _, pk [] rfl, rfl, rfl⟩
def Stt.clipE (x : Stt) : List Value := [.string x.clip, .int .u64 x.clips]
theorem eq109 (x y : Stt) : EqAgg Try.prog 109 x.clipE y.clipE ((x.clip.toList == y.clip.toList) && ((x.clips == y.clips) && true)) :=
  EqAgg.mk fun k => EqD.struct Try.underlying109 (by kernel_rfl) (FE.cons rfl (part_v Try.isAgg9 rfl) (part_v Try.isAgg9 rfl) (EqD.str Try.underlying9)
    (FE.cons rfl (part_v Try.isAgg22 rfl) (part_v Try.isAgg22 rfl) (EqD.int Try.underlying22) FE.nil))
theorem eqGuard109 : Try.prog.eqGuardType Try.prog.depth 109 = false := by kernel_rfl
def Stt.eqv (a b : Stt) : Prop := a.v = b.v ∧ a.title.toList = b.title.toList ∧ (a.clip.toList = b.clip.toList ∧ a.clips = b.clips) ∧ a.bells = b.bells
instance (a b : Stt) : Decidable (a.eqv b) := by unfold Stt.eqv; infer_instance
theorem ssame_ok (E : Env) (a b : Stt) (s t : Value) (ha : a.v.has E [] s) (hb : b.v.has E [] t) : Does Try.prog 26 #[a.val s, b.val t] E [] fun r H' => r = .bool (decide (a.eqv b)) ∧ H' = [] := by
  unfold View.has at ha hb
  refine Does.pure ha.isSl fun hs => ?_
  obtain ⟨sa, sm, sc, rfl⟩ := hs
  refine Does.pure hb.isSl fun hs => ?_
  obtain ⟨ta, tm, tc, rfl⟩ := hs
  refine Does.go (args := [a.val _, b.val _]) _ _ Try.func26 rfl Try.ntmps26 rfl rfl ?_
  refine Body.seq ?_
  refine Body.region ?_
  refine Ops.s (Stp.box (lk rfl) rfl (fun b2 => ?_)) rfl
  refine Ops.s (Stp.box (lk rfl) rfl (fun b3 => ?_)) rfl
  refine Ops.u (Dtu.asg (lk rfl)) rfl ?_
  refine Ops.nil ?_
  refine Then.next ?_
  refine Body.seq ?_
  refine Body.draw mixed ?_
  refine AB.u 0 rfl (by decide +kernel) (Dtu.fld fa62_0 (lk rfl)) rfl ?_
  refine AB.d 1 rfl (by decide +kernel) rfl (Det.lda Try.isAgg60 Try.sizeOf60 (lk rfl) (Rds.ow (m := 6) 1 rfl rfl) rfl) rfl ?_
  refine AB.u 2 rfl (by decide +kernel) (Dtu.fld fa62_0 (lk rfl)) rfl ?_
  refine AB.d 3 rfl (by decide +kernel) rfl (Det.lda Try.isAgg60 Try.sizeOf60 (lk rfl) (Rds.ow (m := 6) 0 rfl rfl) rfl) rfl ?_
  refine AB.s 4 rfl (by decide +kernel) (by decide +kernel) (Stp.call rfl Try.call53 (lks rfl) (fun E' le hat => same_ok E' ⟨_, _, _, _, _, _⟩ ⟨_, _, _, _, _, _⟩ _ _ (Sl.mono (by assumption) le) (Sl.mono (by assumption) le)) ?_) rfl
  rintro _ _ ⟨rfl, rfl⟩
  refine AB.u 5 rfl (by decide +kernel) (Dtu.mv (lk rfl)) rfl ?_
  refine AB.decP 10 rfl (fun c10 => ?_) (fun c10 => ?_)
  · refine AB.gu 6 rfl (by decide +kernel) rfl rfl rfl (Dtu.fld fa62_1 (lk rfl)) rfl ?_
    refine AB.gd 7 rfl (by decide +kernel) rfl rfl rfl rfl (Det.ld Try.isAgg9 (lk rfl) (Rd.ow 1 rfl rfl)) rfl ?_
    refine AB.gu 8 rfl (by decide +kernel) rfl rfl rfl (Dtu.fld fa62_1 (lk rfl)) rfl ?_
    refine AB.gd 9 rfl (by decide +kernel) rfl rfl rfl rfl (Det.ld Try.isAgg9 (lk rfl) (Rd.ow 0 rfl rfl)) rfl ?_
    refine AB.gu 10 rfl (by decide +kernel) rfl rfl rfl (Dtu.eqStr (lk rfl) (lk rfl)) rfl ?_
    refine AB.u 11 rfl (by decide +kernel) (Dtu.pickT (lk rfl) (lk rfl)) rfl ?_
    refine AB.u 12 rfl (by decide +kernel) (Dtu.mv (lk rfl)) rfl ?_
    refine AB.decP 17 rfl (fun c17 => ?_) (fun c17 => ?_)
    · refine AB.gd 13 rfl (by decide +kernel) rfl rfl rfl rfl (Det.lda Try.isAgg62 Try.sizeOf62 (lk rfl) (Rds.ow (m := 10) 1 rfl rfl) rfl) rfl ?_
      refine AB.gd 15 rfl (by decide +kernel) rfl rfl rfl rfl (Det.lda Try.isAgg62 Try.sizeOf62 (lk rfl) (Rds.ow (m := 10) 0 rfl rfl) rfl) rfl ?_
      refine AB.gs 14 rfl (by decide +kernel) (by decide +kernel) rfl rfl rfl (Stp.call rfl Try.call54 (lks rfl) (fun E' le hat => clipping_ok E' ⟨⟨_, _, _, _, _, _⟩, _, _, _, _⟩ _ _ _) ?_) rfl
      rintro _ _ ⟨rfl, rfl⟩
      refine AB.gs 16 rfl (by decide +kernel) (by decide +kernel) rfl rfl rfl (Stp.call rfl Try.call54 (lks rfl) (fun E' le hat => clipping_ok E' ⟨⟨_, _, _, _, _, _⟩, _, _, _, _⟩ _ _ _) ?_) rfl
      rintro _ _ ⟨rfl, rfl⟩
      refine AB.gu 17 rfl (by decide +kernel) rfl rfl rfl (Dtu.eqS eqGuard109 (eq109 _ _) (lk rfl) (lk rfl)) rfl ?_
      refine AB.u 18 rfl (by decide +kernel) (Dtu.pickT (lk rfl) (lk rfl)) rfl ?_
      refine AB.u 19 rfl (by decide +kernel) (Dtu.mv (lk rfl)) rfl ?_
      refine AB.dec 24 rfl (fun c24 => ?_) (fun c24 => ?_)
      · refine AB.gu 20 rfl (by decide +kernel) rfl rfl rfl (Dtu.fld fa62_4 (lk rfl)) rfl ?_
        refine AB.gd 21 rfl (by decide +kernel) rfl rfl rfl rfl (Det.ld Try.isAgg22 (lk rfl) (Rd.ow 1 rfl rfl)) rfl ?_
        refine AB.gu 22 rfl (by decide +kernel) rfl rfl rfl (Dtu.fld fa62_4 (lk rfl)) rfl ?_
        refine AB.gd 23 rfl (by decide +kernel) rfl rfl rfl rfl (Det.ld Try.isAgg22 (lk rfl) (Rd.ow 0 rfl rfl)) rfl ?_
        refine AB.gu 24 rfl (by decide +kernel) rfl rfl rfl (Dtu.eql (lk rfl) (lk rfl)) rfl ?_
        refine AB.u 25 rfl (by decide +kernel) (Dtu.pickT (lk rfl) (lk rfl)) rfl ?_
        refine AB.u 26 rfl (by decide +kernel) (Dtu.asg (lk rfl)) rfl ?_
        refine AB.done (by decide +kernel) ?_
        refine Then.next ?_
        refine Body.ret ?_
        (refine ⟨.inr rfl, _, pk [] rfl, bool_eq ?_, rfl⟩; show _ ↔ decide ((View.mk a.v.rows a.v.cols a.v.cells a.v.row a.v.col a.v.vis = View.mk b.v.rows b.v.cols b.v.cells b.v.row b.v.col b.v.vis) ∧ a.title.toList = b.title.toList ∧ (a.clip.toList = b.clip.toList ∧ a.clips = b.clips) ∧ a.bells = b.bells) = true; simp [*] <;> simp_all)
      · refine AB.gn 20 rfl (by decide +kernel) rfl rfl rfl rfl rfl ?_
        refine AB.gn 21 rfl (by decide +kernel) rfl rfl rfl rfl rfl ?_
        refine AB.gn 22 rfl (by decide +kernel) rfl rfl rfl rfl rfl ?_
        refine AB.gn 23 rfl (by decide +kernel) rfl rfl rfl rfl rfl ?_
        refine AB.gn 24 rfl (by decide +kernel) rfl rfl rfl rfl rfl ?_
        refine AB.u 25 rfl (by decide +kernel) (Dtu.pickF (lk rfl) (lk rfl)) rfl ?_
        refine AB.u 26 rfl (by decide +kernel) (Dtu.asg (lk rfl)) rfl ?_
        refine AB.done (by decide +kernel) ?_
        refine Then.next ?_
        refine Body.ret ?_
        (refine ⟨.inr rfl, _, pk [] rfl, bool_eq ?_, rfl⟩; show _ ↔ decide ((View.mk a.v.rows a.v.cols a.v.cells a.v.row a.v.col a.v.vis = View.mk b.v.rows b.v.cols b.v.cells b.v.row b.v.col b.v.vis) ∧ a.title.toList = b.title.toList ∧ (a.clip.toList = b.clip.toList ∧ a.clips = b.clips) ∧ a.bells = b.bells) = true; simp [*] <;> simp_all)
    · refine AB.gn 13 rfl (by decide +kernel) rfl rfl rfl rfl rfl ?_
      refine AB.gn 14 rfl (by decide +kernel) rfl rfl rfl rfl rfl ?_
      refine AB.gn 15 rfl (by decide +kernel) rfl rfl rfl rfl rfl ?_
      refine AB.gn 16 rfl (by decide +kernel) rfl rfl rfl rfl rfl ?_
      refine AB.gn 17 rfl (by decide +kernel) rfl rfl rfl rfl rfl ?_
      refine AB.u 18 rfl (by decide +kernel) (Dtu.pickF (lk rfl) (lk rfl)) rfl ?_
      refine AB.u 19 rfl (by decide +kernel) (Dtu.mv (lk rfl)) rfl ?_
      refine AB.gn 20 rfl (by decide +kernel) rfl rfl rfl rfl rfl ?_
      refine AB.gn 21 rfl (by decide +kernel) rfl rfl rfl rfl rfl ?_
      refine AB.gn 22 rfl (by decide +kernel) rfl rfl rfl rfl rfl ?_
      refine AB.gn 23 rfl (by decide +kernel) rfl rfl rfl rfl rfl ?_
      refine AB.gn 24 rfl (by decide +kernel) rfl rfl rfl rfl rfl ?_
      refine AB.u 25 rfl (by decide +kernel) (Dtu.pickF (lk rfl) (lk rfl)) rfl ?_
      refine AB.u 26 rfl (by decide +kernel) (Dtu.asg (lk rfl)) rfl ?_
      refine AB.done (by decide +kernel) ?_
      refine Then.next ?_
      refine Body.ret ?_
      (refine ⟨.inr rfl, _, pk [] rfl, bool_eq ?_, rfl⟩; show _ ↔ decide ((View.mk a.v.rows a.v.cols a.v.cells a.v.row a.v.col a.v.vis = View.mk b.v.rows b.v.cols b.v.cells b.v.row b.v.col b.v.vis) ∧ a.title.toList = b.title.toList ∧ (a.clip.toList = b.clip.toList ∧ a.clips = b.clips) ∧ a.bells = b.bells) = true; simp [*] <;> simp_all)
  · refine AB.gn 6 rfl (by decide +kernel) rfl rfl rfl rfl rfl ?_
    refine AB.gn 7 rfl (by decide +kernel) rfl rfl rfl rfl rfl ?_
    refine AB.gn 8 rfl (by decide +kernel) rfl rfl rfl rfl rfl ?_
    refine AB.gn 9 rfl (by decide +kernel) rfl rfl rfl rfl rfl ?_
    refine AB.gn 10 rfl (by decide +kernel) rfl rfl rfl rfl rfl ?_
    refine AB.u 11 rfl (by decide +kernel) (Dtu.pickF (lk rfl) (lk rfl)) rfl ?_
    refine AB.u 12 rfl (by decide +kernel) (Dtu.mv (lk rfl)) rfl ?_
    refine AB.gn 13 rfl (by decide +kernel) rfl rfl rfl rfl rfl ?_
    refine AB.gn 14 rfl (by decide +kernel) rfl rfl rfl rfl rfl ?_
    refine AB.gn 15 rfl (by decide +kernel) rfl rfl rfl rfl rfl ?_
    refine AB.gn 16 rfl (by decide +kernel) rfl rfl rfl rfl rfl ?_
    refine AB.gn 17 rfl (by decide +kernel) rfl rfl rfl rfl rfl ?_
    refine AB.u 18 rfl (by decide +kernel) (Dtu.pickF (lk rfl) (lk rfl)) rfl ?_
    refine AB.u 19 rfl (by decide +kernel) (Dtu.mv (lk rfl)) rfl ?_
    refine AB.gn 20 rfl (by decide +kernel) rfl rfl rfl rfl rfl ?_
    refine AB.gn 21 rfl (by decide +kernel) rfl rfl rfl rfl rfl ?_
    refine AB.gn 22 rfl (by decide +kernel) rfl rfl rfl rfl rfl ?_
    refine AB.gn 23 rfl (by decide +kernel) rfl rfl rfl rfl rfl ?_
    refine AB.gn 24 rfl (by decide +kernel) rfl rfl rfl rfl rfl ?_
    refine AB.u 25 rfl (by decide +kernel) (Dtu.pickF (lk rfl) (lk rfl)) rfl ?_
    refine AB.u 26 rfl (by decide +kernel) (Dtu.asg (lk rfl)) rfl ?_
    refine AB.done (by decide +kernel) ?_
    refine Then.next ?_
    refine Body.ret ?_
    (refine ⟨.inr rfl, _, pk [] rfl, bool_eq ?_, rfl⟩; show _ ↔ decide ((View.mk a.v.rows a.v.cols a.v.cells a.v.row a.v.col a.v.vis = View.mk b.v.rows b.v.cols b.v.cells b.v.row b.v.col b.v.vis) ∧ a.title.toList = b.title.toList ∧ (a.clip.toList = b.clip.toList ∧ a.clips = b.clips) ∧ a.bells = b.bells) = true; simp [*] <;> simp_all)
end Go.Proofs.Ytagcpamchgpgiaa
end
section
/- States: great ones; the first one. Fields' bytes. -/
namespace Go.Proofs.Ytagcpamchgpgiaa
set_option maxRecDepth 100000
set_option linter.unusedVariables false
set_option linter.unusedSimpArgs false
open Go.Sx

def Stt.great (x : Stt) : Prop := 600 < x.v.cells.length ∨ 200 < x.title.size ∨ 500 < x.clip.size
instance (x : Stt) : Decidable x.great := by unfold Stt.great; infer_instance
def Stt.first : Stt := ⟨View.first, ⟨#[]⟩, ⟨#[]⟩, 0, 0⟩
theorem sfirst_ok (E : Env) : Does Try.prog 23 #[] E [] fun r H' => ∃ (a : Option Addr) (m c : Nat), r = Stt.first.val (.slice a m c) ∧ H' = [osl 127 4 (.slice a m c) 1 (View.first.cells.flatMap Cell.enc)] := by
  refine Does.go (args := []) _ _ Try.func23 rfl Try.ntmps23 rfl rfl ?_
  refine Body.seq ?_
  refine Body.region ?_
  refine Ops.s (Stp.alloc ty62 (fun b0 => ?_)) rfl
  refine Ops.nil ?_
  refine Then.next ?_
  refine Body.seq ?_
  refine Body.region ?_
  refine Ops.s (Stp.call rfl Try.call50 (lks rfl) (fun E' le hat => first_ok E') ?_) rfl
  rintro _ _ ⟨s1, rfl, rfl⟩
  refine Ops.u (Dtu.build ty62 pl62 (lkp rfl) rfl rfl) rfl ?_
  refine Ops.pure (Sl.isSl (Sl.osl 0 rfl)) fun h1 => ?_
  obtain ⟨z1, z2, z3, rfl⟩ := h1
  refine Ops.e (Stp.store 1 Try.sizeOf62 (lk rfl) (lk rfl) rfl rfl rfl rfl rfl rfl rfl ?_)
  refine Ops.nil ?_
  refine Then.next ?_
  refine Body.ret ?_
  exact ⟨.inr rfl, _, Loads.agg Try.isAgg62 Try.sizeOf62 (Rds.ow (m := 10) 1 rfl rfl) rfl, _, pk [0] rfl, z1, z2, z3, rfl, rfl⟩
structure Fld where
  tag : Int
  a : Option Addr
  m : Nat
  c : Nat
  data : List Int
  deriving Inhabited
def Fld.enc (f : Fld) : List Value := [.int .u8 f.tag, .slice f.a f.m f.c]
def Fld.has (f : Fld) (E : Env) (H : List HProp) : Prop := Sl E H 1 (.slice f.a f.m f.c) f.data.length (f.data.map (.int .u8))
/-- a field's bytes -/
def fldB (t : Int) (d : List Int) : List Int := [t] ++ (putL (d.length : Int) ++ d)
theorem putFields_ok (E : Env) (s : Value) (fs : List Fld) (h : Sl E [] 2 s fs.length (fs.flatMap Fld.enc)) (hd : ∀ f ∈ fs, f.has E []) (hn : fs.length ≤ 128) (hl : ∀ f ∈ fs, f.data.length ≤ 16384) : Does Try.prog 73 #[s] E [] fun r H' => ∃ s', r = .tuple #[s', .int .i64 0] ∧ H' = [osl 5 1 s' (fs.flatMap fun f => fldB f.tag f.data).length ((fs.flatMap fun f => fldB f.tag f.data).map (.int .u8))] := by
  refine Does.go (args := [s]) _ _ Try.func73 rfl Try.ntmps73 rfl rfl ?_
  refine Body.seq ?_
  refine Body.region ?_
  refine Ops.u (Dtu.asg (lk rfl)) rfl ?_
  refine Ops.u (Dtu.asg (lk rfl)) rfl ?_
  refine Ops.nil ?_
  refine Then.next ?_
  refine Body.seq ?_
  refine Body.seq ?_
  refine Body.region ?_
  refine Ops.u (Dtu.mv (lk rfl)) rfl ?_
  refine Ops.u (Dtu.lenS Try.underlying134 (Sl.up h) (lk rfl)) rfl ?_
  refine Ops.u (Dtu.gtr (lk rfl) (lk rfl)) rfl ?_
  refine Ops.nil ?_
  refine Then.next ?_
  refine Body.condP (lk rfl) (fun hy => absurd hy (by first | omega | assumption | decide)) (fun _ => ?_)
  refine Body.skip ?_
  refine Then.next ?_
  refine Body.seq ?_
  refine Body.region ?_
  refine Ops.u (Dtu.asg (lk rfl)) rfl ?_
  refine Ops.nil ?_
  refine Then.next ?_
  refine Body.seq ?_
  refine Body.seq ?_
  refine Body.region ?_
  refine Ops.u (Dtu.mv (lk rfl)) rfl ?_
  refine Ops.u (Dtu.lenS Try.underlying134 (Sl.up h) (lk rfl)) rfl ?_
  refine Ops.u (Dtu.mv (lk rfl)) rfl ?_
  refine Ops.nil ?_
  refine Then.next ?_
  refine Body.block ?_
  refine Body.conseq (H' := [osl 5 1 (.slice none 0 0) 0 []]) (fun w s => osl_nil s) ?_
  refine Body.loopF (γ := Nat × Value × List Int) rfl (fun g => [(14, .int .i64 g.1), (4, g.2.1)]) (fun g => [osl 5 1 g.2.1 g.2.2.length (g.2.2.map (.int .u8))]) (fun g => g.1 ≤ fs.length ∧ g.2.2 = (fs.take g.1).flatMap (fun f => fldB f.tag f.data) ∧ g.2.2.length ≤ 16393 * g.1) (fun g => fs.length - g.1) (0, .slice none 0 0, []) ⟨by simp, by simp, by simp⟩ ⟨rfl, rfl, trivial⟩ rfl ?_
  rintro ⟨i, O, bs⟩ u ⟨hi, he, hb⟩
  dsimp only at hi he hb ⊢
  refine Body.seq ?_
  refine Body.region ?_
  refine Ops.u (Dtu.lss (lk rfl) (lk rfl)) rfl ?_
  refine Ops.nil ?_
  refine Then.next ?_
  refine Body.seq ?_
  refine Body.condP (lk rfl) (fun c15 => ?_) (fun c15 => ?_)
  · have hfm : fs[i]! ∈ fs := by rw [getElem!_pos fs i (by omega)]; exact List.getElem_mem _
    have hdi : Sl E [] 1 (.slice fs[i]!.a fs[i]!.m fs[i]!.c) fs[i]!.data.length (fs[i]!.data.map (.int .u8)) := hd _ hfm
    have hli := hl _ hfm
    have hz := sizeS_le (fs[i]!.data.length : Int)
    refine Body.skip ?_
    refine Then.next ?_
    refine Body.seq ?_
    refine Body.block ?_
    refine Body.seq ?_
    refine Body.region ?_
    refine Ops.u (Dtu.ix (i := (i)) Try.underlying134 Try.sizeOf133 (Sl.up h) (lk rfl) (lk rfl) (by omega) (by omega)) rfl ?_
    refine Ops.d (Det.lda Try.isAgg133 Try.sizeOf133 (lk rfl) (Rds.sl (Sl.up h) (gf (sz := 2) (fun _ => rfl) (by omega))) rfl) rfl ?_
    refine Ops.s (Stp.alloc ty133 (fun b6 => ?_)) rfl
    refine Ops.e (Stp.store 0 Try.sizeOf133 (lk rfl) (lk rfl) rfl rfl rfl rfl rfl rfl rfl ?_)
    refine Ops.nil ?_
    refine Then.next ?_
    refine Body.seq ?_
    refine Body.seq ?_
    refine Body.region ?_
    refine Ops.u (Dtu.fld fa133_1 (lk rfl)) rfl ?_
    refine Ops.d (Det.ld Try.isAgg23 (lk rfl) (Rd.ow 0 rfl rfl)) rfl ?_
    refine Ops.u (Dtu.lenS Try.underlying23 (Sl.up hdi) (lk rfl)) rfl ?_
    refine Ops.u (Dtu.gtr (lk rfl) (lk rfl)) rfl ?_
    refine Ops.nil ?_
    refine Then.next ?_
    refine Body.condP (lk rfl) (fun hy => absurd hy (by first | omega | assumption | decide)) (fun _ => ?_)
    refine Body.skip ?_
    refine Then.next ?_
    refine Body.seq ?_
    refine Body.region ?_
    refine Ops.u (Dtu.fld fa133_1 (lk rfl)) rfl ?_
    refine Ops.d (Det.ld Try.isAgg23 (lk rfl) (Rd.ow 0 rfl rfl)) rfl ?_
    refine Ops.u (Dtu.lenS Try.underlying23 (Sl.up hdi) (lk rfl)) rfl ?_
    refine Ops.u (Dtu.cvt Try.underlying3 Try.underlying22 (lk rfl) (wu64 (by omega) (by omega))) rfl ?_
    refine Ops.s (Stp.call rfl Try.call72 (lks rfl) (fun E' le hat => put_fine E' _ (by omega) (by omega)) ?_) rfl
    rintro _ _ ⟨s27, hz27, rfl, rfl⟩
    refine Ops.u (Dtu.mv (lk rfl)) rfl ?_
    refine Ops.u (Dtu.ext (lk rfl) rfl) rfl ?_
    refine Ops.u (Dtu.ext (lk rfl) rfl) rfl ?_
    refine Ops.u (Dtu.asg (lk rfl)) rfl ?_
    refine Ops.u (Dtu.asg (lk rfl)) rfl ?_
    refine Ops.nil ?_
    refine Then.next ?_
    refine Body.seq ?_
    refine Body.region ?_
    refine Ops.u (Dtu.mv (lk rfl)) rfl ?_
    refine Ops.u (Dtu.fld fa133_0 (lk rfl)) rfl ?_
    refine Ops.d (Det.ld Try.isAgg5 (lk rfl) (Rd.ow 1 rfl rfl)) rfl ?_
    refine Ops.s (Stp.buildSliceO Try.underlying23 ty5 (by decide) (by decide) (lkp rfl) rfl rfl rfl (by decide) (fun v33 => ?_)) rfl
    refine Ops.s (Stp.append 3 Try.underlying23 ty5 rfl rfl (lk rfl) (lk rfl) (Sl.osl 0 rfl) (by first | rfl | exact all_map (fun _ => rfl) _ | exact all_flat (fun _ => rfl) _) (by omega) (by omega) (fun v34 => ?_)) rfl
    refine Ops.u (Dtu.asg (lk rfl)) rfl ?_
    refine Ops.nil ?_
    refine Then.next ?_
    refine Body.seq ?_
    refine Body.region ?_
    refine Ops.u (Dtu.mv (lk rfl)) rfl ?_
    refine Ops.u (Dtu.mv (lk rfl)) rfl ?_
    refine Ops.s (Stp.append 3 Try.underlying23 ty5 rfl rfl (lk rfl) (lk rfl) (Sl.osl 1 rfl) (by first | rfl | exact all_map (fun _ => rfl) _ | exact all_flat (fun _ => rfl) _) (by omega) (by omega) (fun v37 => ?_)) rfl
    refine Ops.u (Dtu.asg (lk rfl)) rfl ?_
    refine Ops.nil ?_
    refine Then.next ?_
    refine Body.region ?_
    refine Ops.u (Dtu.mv (lk rfl)) rfl ?_
    refine Ops.u (Dtu.fld fa133_1 (lk rfl)) rfl ?_
    refine Ops.d (Det.ld Try.isAgg23 (lk rfl) (Rd.ow 2 rfl rfl)) rfl ?_
    refine Ops.s (Stp.append 3 Try.underlying23 ty5 rfl rfl (lk rfl) (lk rfl) (Sl.up hdi) (by first | rfl | exact all_map (fun _ => rfl) _ | exact all_flat (fun _ => rfl) _) (by omega) (by omega) (fun v41 => ?_)) rfl
    refine Ops.u (Dtu.asg (lk rfl)) rfl ?_
    refine Ops.nil ?_
    refine Blk.norm ?_
    refine Then.next ?_
    refine Body.region ?_
    refine Ops.u (Dtu.add (lk rfl) (lk rfl) (w64 (by omega) (by omega))) rfl ?_
    refine Ops.u (Dtu.mv (lk rfl)) rfl ?_
    refine Ops.nil ?_
    have e : (fs.take (i + 1)).flatMap (fun f => fldB f.tag f.data) = (fs.take i).flatMap (fun f => fldB f.tag f.data) ++ fldB fs[i]!.tag fs[i]!.data := by rw [take_snocD (by omega), List.flatMap_append]; simp
    refine Round.goK [3] (i + 1, v41, bs ++ fldB fs[i]!.tag fs[i]!.data) rfl rfl rfl ⟨int_eq (by simp), rfl, trivial⟩ rfl ?_ ⟨by dsimp only; omega, ?_, ?_⟩ (by dsimp only; omega)
    · simp [fldB, putL_len, Nat.add_assoc, Nat.add_comm, Nat.add_left_comm]
    · dsimp only
      rw [e, he]
    · simp only [fldB, List.length_append, putL_len, List.length_cons, List.length_nil]; omega
  · obtain rfl : i = fs.length := by omega
    rw [List.take_length] at he
    subst he
    refine Body.exit ?_
    refine Then.exit ?_
    refine Round.exit ?_
    refine Blk.here ?_
    refine Then.next ?_
    refine Body.seq ?_
    refine Body.region ?_
    refine Ops.u (Dtu.mv (lk rfl)) rfl ?_
    refine Ops.u (Dtu.asg (lk rfl)) rfl ?_
    refine Ops.u (Dtu.asg (lk rfl)) rfl ?_
    refine Ops.nil ?_
    refine Then.next ?_
    refine Body.ret ?_
    exact ⟨.inr rfl, _, pk [0] rfl, O, rfl, rfl⟩
end Go.Proofs.Ytagcpamchgpgiaa
end
section
/- Changes: Diff. -/
namespace Go.Proofs.Ytagcpamchgpgiaa
set_option maxRecDepth 100000
set_option linter.unusedVariables false
set_option linter.unusedSimpArgs false
open Go.Sx

theorem add_ok (E : Env) (is : Bool) (f : Fld) (b : Nat) (p : Option Addr) (m k : Nat) (fs : List Fld) (hn : fs.length ≤ 100) : Does Try.prog 71 #[.bool is, .int .u8 f.tag, .slice f.a f.m f.c, .pointer (some ⟨b, 0, none⟩)] E [own b [.slice p m k] 134, osl 133 2 (.slice p m k) fs.length (fs.flatMap Fld.enc)] fun r H' => ∃ (z1 : Option Addr) (z2 z3 : Nat), H' = [own b [.slice z1 z2 z3] 134, osl 133 2 (.slice z1 z2 z3) (fs ++ if is then [f] else []).length ((fs ++ if is then [f] else []).flatMap Fld.enc)] := by
  refine Does.go (args := [.bool is, .int .u8 f.tag, .slice f.a f.m f.c, .pointer (some ⟨b, 0, none⟩)]) _ _ Try.func71 rfl Try.ntmps71 rfl rfl ?_
  cases is with
  | true =>
    refine Body.seq ?_
    refine Body.region ?_
    refine Ops.u (Dtu.mv (lk rfl)) rfl ?_
    refine Ops.nil ?_
    refine Then.next ?_
    refine Body.condT (lk rfl) ?_
    refine Body.region ?_
    refine Ops.d (Det.ld Try.isAgg134 (lk rfl) (Rd.ow 0 rfl rfl)) rfl ?_
    refine Ops.u (Dtu.mv (lk rfl)) rfl ?_
    refine Ops.u (Dtu.mv (lk rfl)) rfl ?_
    refine Ops.u (Dtu.build ty133 pl133 (lkp rfl) rfl rfl) rfl ?_
    refine Ops.s (Stp.buildSliceO Try.underlying134 ty133 (by decide) (by decide) (lkp rfl) rfl rfl rfl (by decide) (fun v12 => ?_)) rfl
    refine Ops.s (Stp.append 2 Try.underlying134 ty133 rfl rfl (lk rfl) (lk rfl) (Sl.osl 0 rfl) (by first | rfl | exact all_map (fun _ => rfl) _ | exact all_flat (fun _ => rfl) _) (by omega) (by omega) (fun v13 => ?_)) rfl
    refine Ops.pure (Sl.isSl (Sl.osl 2 rfl)) fun h13 => ?_
    obtain ⟨z1, z2, z3, rfl⟩ := h13
    refine Ops.e (Stp.store 1 Try.sizeOf134 (lk rfl) (lk rfl) rfl rfl rfl rfl rfl rfl rfl ?_)
    refine Ops.nil ?_
    exact ⟨.inl rfl, _, pk [1, 1] rfl, z1, z2, z3, by simp [Fld.enc]⟩
  | false =>
    refine Body.seq ?_
    refine Body.region ?_
    refine Ops.u (Dtu.mv (lk rfl)) rfl ?_
    refine Ops.nil ?_
    refine Then.next ?_
    refine Body.condF (lk rfl) ?_
    refine Body.skip ?_
    exact ⟨.inl rfl, _, pk [0, 0] rfl, p, m, k, by simp⟩
/-- the fields of a change -/
def sdifL (a b : Stt) : List (Int × List Int) := [(1, difB a.v b.v)] ++ (if a.title.toList ≠ b.title.toList then [(2, numsOf b.title)] else []) ++ (if ¬ (a.clip.toList = b.clip.toList ∧ a.clips = b.clips) then [(3, putL b.clips ++ numsOf b.clip)] else []) ++ (if a.bells ≠ b.bells then [(4, putL b.bells)] else [])
def sdifB (a b : Stt) : List Int := (sdifL a b).flatMap fun x => fldB x.1 x.2
theorem sdiff_no (E : Env) (a b : Stt) (s t : Value) (ha : a.v.has E [] s) (hb : b.v.has E [] t) (h : (a.ok && b.ok) = false) : Does Try.prog 55 #[a.val s, b.val t] E [] fun r H' => r = .tuple #[.slice none 0 0, .int .i64 3] ∧ H' = [] := by
  unfold View.has at ha hb
  refine Does.pure ha.isSl fun hs => ?_
  obtain ⟨sa, sm, sc, rfl⟩ := hs
  refine Does.pure hb.isSl fun hs => ?_
  obtain ⟨ta, tm, tc, rfl⟩ := hs
  refine Does.go (args := [a.val _, b.val _]) _ _ Try.func55 rfl Try.ntmps55 rfl rfl ?_
  cases hk : a.ok with
  | false =>
    refine Body.seq ?_
    refine Body.region ?_
    refine Ops.s (Stp.box (lk rfl) rfl (fun b2 => ?_)) rfl
    refine Ops.s (Stp.box (lk rfl) rfl (fun b3 => ?_)) rfl
    refine Ops.u (Dtu.asg (lk rfl)) rfl ?_
    refine Ops.u (Dtu.asg (lk rfl)) rfl ?_
    refine Ops.nil ?_
    refine Then.next ?_
    refine Body.seq ?_
    refine Body.seq ?_
    refine Body.region ?_
    refine Ops.d (Det.lda Try.isAgg62 Try.sizeOf62 (lk rfl) (Rds.ow (m := 10) 1 rfl rfl) rfl) rfl ?_
    refine Ops.s (Stp.call rfl Try.call33 (lks rfl) (fun E' le hat => sright_ok E' ⟨⟨_, _, _, _, _, _⟩, _, _, _, _⟩ _ (Sl.mono (by assumption) le)) ?_) rfl
    rintro _ _ ⟨rfl, rfl⟩
    refine Ops.u (Dtu.not (lk rfl)) rfl ?_
    refine Ops.u (Dtu.mv (lk rfl)) rfl ?_
    refine Ops.dec 17 rfl (fun _ => ?_) (fun hn => absurd hn (by first | (rw [hk]; decide) | simp [hk]))
    refine Ops.gn rfl rfl rfl rfl rfl ?_
    refine Ops.gn rfl rfl rfl rfl rfl ?_
    refine Ops.gn rfl rfl rfl rfl rfl ?_
    refine Ops.u (Dtu.pickT (lk rfl) (lk rfl)) rfl ?_
    refine Ops.nil ?_
    refine Then.next ?_
    refine Body.condT (lk rfl) ?_
    refine Body.seq ?_
    refine Body.region ?_
    refine Ops.u (Dtu.asg (lk rfl)) rfl ?_
    refine Ops.u (Dtu.asg (lk rfl)) rfl ?_
    refine Ops.nil ?_
    refine Then.next ?_
    refine Body.ret ?_
    refine Then.ret ?_
    exact ⟨.inr rfl, _, pk [] rfl, rfl, rfl⟩
  | true =>
    have hk2 : b.ok = false := by simpa [hk] using h
    refine Body.seq ?_
    refine Body.region ?_
    refine Ops.s (Stp.box (lk rfl) rfl (fun b2 => ?_)) rfl
    refine Ops.s (Stp.box (lk rfl) rfl (fun b3 => ?_)) rfl
    refine Ops.u (Dtu.asg (lk rfl)) rfl ?_
    refine Ops.u (Dtu.asg (lk rfl)) rfl ?_
    refine Ops.nil ?_
    refine Then.next ?_
    refine Body.seq ?_
    refine Body.seq ?_
    refine Body.region ?_
    refine Ops.d (Det.lda Try.isAgg62 Try.sizeOf62 (lk rfl) (Rds.ow (m := 10) 1 rfl rfl) rfl) rfl ?_
    refine Ops.s (Stp.call rfl Try.call33 (lks rfl) (fun E' le hat => sright_ok E' ⟨⟨_, _, _, _, _, _⟩, _, _, _, _⟩ _ (Sl.mono (by assumption) le)) ?_) rfl
    rintro _ _ ⟨rfl, rfl⟩
    refine Ops.u (Dtu.not (lk rfl)) rfl ?_
    refine Ops.u (Dtu.mv (lk rfl)) rfl ?_
    refine Ops.dec 17 rfl (fun hn => absurd hn (by first | (rw [hk]; decide) | simp [hk])) (fun _ => ?_)
    refine Ops.gd rfl rfl rfl (Det.lda Try.isAgg62 Try.sizeOf62 (lk rfl) (Rds.ow (m := 10) 0 rfl rfl) rfl) rfl ?_
    refine Ops.gs rfl rfl rfl (Stp.call rfl Try.call33 (lks rfl) (fun E' le hat => sright_ok E' ⟨⟨_, _, _, _, _, _⟩, _, _, _, _⟩ _ (Sl.mono (by assumption) le)) ?_) rfl
    rintro _ _ ⟨rfl, rfl⟩
    refine Ops.gu rfl rfl rfl (Dtu.not (lk rfl)) rfl ?_
    refine Ops.u (Dtu.pickF (lk rfl) (lk rfl)) rfl ?_
    refine Ops.nil ?_
    refine Then.next ?_
    refine Body.cond (lk rfl) (fun _ => ?_) (fun hn => absurd hn (by first | (rw [hk2]; decide) | simp [hk2]))
    refine Body.seq ?_
    refine Body.region ?_
    refine Ops.u (Dtu.asg (lk rfl)) rfl ?_
    refine Ops.u (Dtu.asg (lk rfl)) rfl ?_
    refine Ops.nil ?_
    refine Then.next ?_
    refine Body.ret ?_
    refine Then.ret ?_
    exact ⟨.inr rfl, _, pk [] rfl, rfl, rfl⟩
theorem Stt.ok_fits {x : Stt} (h : x.ok = true) : x.v.ok = true ∧ x.title.size ≤ 64 ∧ x.clip.size ≤ 256 ∧ x.clips ≤ 4611686018427387903 ∧ x.bells ≤ 4611686018427387903 := by
  simp only [Stt.ok, Bool.and_eq_true, decide_eq_true_eq] at h
  exact ⟨h.1, h.2⟩
set_option maxHeartbeats 3200000 in
theorem sdiff_ok (E : Env) (a b : Stt) (s t : Value) (ha : a.v.has E [] s) (hb : b.v.has E [] t) (ka : a.ok = true) (kb : b.ok = true) (hc : 0 ≤ b.clips) (hbe : 0 ≤ b.bells) : Does Try.prog 55 #[a.val s, b.val t] E [] fun r H' => ∃ s', r = .tuple #[s', .int .i64 0] ∧ H' = [osl 5 1 s' (sdifB a b).length ((sdifB a b).map (.int .u8))] := by
  unfold View.has at ha hb
  obtain ⟨kav, _⟩ := Stt.ok_fits ka
  obtain ⟨kbv, t1, t2, t3, t4⟩ := Stt.ok_fits kb
  refine Does.pure ha.isSl fun hs => ?_
  obtain ⟨sa, sm, sc, rfl⟩ := hs
  refine Does.pure hb.isSl fun hs => ?_
  obtain ⟨ta, tm, tc, rfl⟩ := hs
  have hz1 := sizeS_le b.clips
  refine Does.go (args := [a.val _, b.val _]) _ _ Try.func55 rfl Try.ntmps55 rfl rfl ?_
  refine Body.seq ?_
  refine Body.region ?_
  refine Ops.s (Stp.box (lk rfl) rfl (fun b2 => ?_)) rfl
  refine Ops.s (Stp.box (lk rfl) rfl (fun b3 => ?_)) rfl
  refine Ops.u (Dtu.asg (lk rfl)) rfl ?_
  refine Ops.u (Dtu.asg (lk rfl)) rfl ?_
  refine Ops.nil ?_
  refine Then.next ?_
  refine Body.seq ?_
  refine Body.seq ?_
  refine Body.region ?_
  refine Ops.d (Det.lda Try.isAgg62 Try.sizeOf62 (lk rfl) (Rds.ow (m := 10) 1 rfl rfl) rfl) rfl ?_
  refine Ops.s (Stp.call rfl Try.call33 (lks rfl) (fun E' le hat => sright_ok E' ⟨⟨_, _, _, _, _, _⟩, _, _, _, _⟩ _ (Sl.mono (by assumption) le)) ?_) rfl
  rintro _ _ ⟨rfl, rfl⟩
  refine Ops.u (Dtu.not (lk rfl)) rfl ?_
  refine Ops.u (Dtu.mv (lk rfl)) rfl ?_
  refine Ops.dec 17 rfl (fun hn => absurd hn (by first | (rw [ka]; decide) | simp [ka])) (fun _ => ?_)
  refine Ops.gd rfl rfl rfl (Det.lda Try.isAgg62 Try.sizeOf62 (lk rfl) (Rds.ow (m := 10) 0 rfl rfl) rfl) rfl ?_
  refine Ops.gs rfl rfl rfl (Stp.call rfl Try.call33 (lks rfl) (fun E' le hat => sright_ok E' ⟨⟨_, _, _, _, _, _⟩, _, _, _, _⟩ _ (Sl.mono (by assumption) le)) ?_) rfl
  rintro _ _ ⟨rfl, rfl⟩
  refine Ops.gu rfl rfl rfl (Dtu.not (lk rfl)) rfl ?_
  refine Ops.u (Dtu.pickF (lk rfl) (lk rfl)) rfl ?_
  refine Ops.nil ?_
  refine Then.next ?_
  refine Body.cond (lk rfl) (fun hn => absurd hn (by first | (rw [kb]; decide) | simp [kb])) (fun _ => ?_)
  refine Body.skip ?_
  refine Then.next ?_
  refine Body.seq ?_
  refine Body.region ?_
  refine Ops.u (Dtu.fld fa62_0 (lk rfl)) rfl ?_
  refine Ops.d (Det.lda Try.isAgg60 Try.sizeOf60 (lk rfl) (Rds.ow (m := 6) 1 rfl rfl) rfl) rfl ?_
  refine Ops.u (Dtu.fld fa62_0 (lk rfl)) rfl ?_
  refine Ops.d (Det.lda Try.isAgg60 Try.sizeOf60 (lk rfl) (Rds.ow (m := 6) 0 rfl rfl) rfl) rfl ?_
  refine Ops.s (Stp.call rfl Try.call70 (lks rfl) (fun E' le hat => diff_ok E' ⟨_, _, _, _, _, _⟩ ⟨_, _, _, _, _, _⟩ _ _ (Sl.mono (by assumption) le) (Sl.mono (by assumption) le) (by assumption) (by assumption)) ?_) rfl
  rintro _ _ ⟨s27, rfl, rfl⟩
  refine Ops.u (Dtu.mv (lk rfl)) rfl ?_
  refine Ops.u (Dtu.ext (lk rfl) rfl) rfl ?_
  refine Ops.u (Dtu.ext (lk rfl) rfl) rfl ?_
  refine Ops.u (Dtu.asg (lk rfl)) rfl ?_
  refine Ops.u (Dtu.asg (lk rfl)) rfl ?_
  refine Ops.nil ?_
  refine Then.next ?_
  refine Body.seq ?_
  refine Body.seq ?_
  refine Body.region ?_
  refine Ops.u (Dtu.mv (lk rfl)) rfl ?_
  refine Ops.u (Dtu.neq (lk rfl) (lk rfl)) rfl ?_
  refine Ops.nil ?_
  refine Then.next ?_
  refine Body.condP (lk rfl) (fun hy => absurd hy (by first | omega | assumption | decide)) (fun _ => ?_)
  refine Body.skip ?_
  refine Then.next ?_
  refine Body.seq ?_
  refine Body.region ?_
  refine Ops.u (Dtu.mv (lk rfl)) rfl ?_
  refine Ops.pure (Sl.isSl (Sl.osl 0 rfl)) fun h27 => ?_
  obtain ⟨pa, pm, pc, rfl⟩ := h27
  refine Ops.u (Dtu.build ty133 pl133 (lkp rfl) rfl rfl) rfl ?_
  refine Ops.s (Stp.buildSliceO Try.underlying134 ty133 (by decide) (by decide) (lkp rfl) rfl rfl rfl (by decide) (fun v35 => ?_)) rfl
  refine Ops.s (Stp.alloc ty134 (fun b8 => ?_)) rfl
  refine Ops.pure (Sl.isSl (Sl.osl 1 rfl)) fun h35 => ?_
  obtain ⟨la, lm, lc, rfl⟩ := h35
  refine Ops.e (Stp.store 0 Try.sizeOf134 (lk rfl) (lk rfl) rfl rfl rfl rfl rfl rfl rfl ?_)
  refine Ops.nil ?_
  refine Then.next ?_
  refine Body.seq ?_
  refine Body.region ?_
  refine Ops.u (Dtu.mkfC (lks rfl)) rfl ?_
  refine Ops.u (Dtu.asg (lk rfl)) rfl ?_
  refine Ops.nil ?_
  refine Then.next ?_
  refine Body.seq ?_
  refine Body.region ?_
  refine Ops.u (Dtu.fld fa62_3 (lk rfl)) rfl ?_
  refine Ops.d (Det.ld Try.isAgg22 (lk rfl) (Rd.ow 3 rfl rfl)) rfl ?_
  refine Ops.s (Stp.call rfl Try.call72 (lks rfl) (fun E' le hat => put_fine E' _ (by omega) (by omega)) ?_) rfl
  rintro _ _ ⟨s40, hz40, rfl, rfl⟩
  refine Ops.u (Dtu.mv (lk rfl)) rfl ?_
  refine Ops.u (Dtu.ext (lk rfl) rfl) rfl ?_
  refine Ops.u (Dtu.ext (lk rfl) rfl) rfl ?_
  refine Ops.u (Dtu.asg (lk rfl)) rfl ?_
  refine Ops.u (Dtu.asg (lk rfl)) rfl ?_
  refine Ops.nil ?_
  refine Then.next ?_
  refine Body.seq ?_
  refine Body.region ?_
  refine Ops.u (Dtu.fld fa62_4 (lk rfl)) rfl ?_
  refine Ops.d (Det.ld Try.isAgg22 (lk rfl) (Rd.ow 4 rfl rfl)) rfl ?_
  refine Ops.s (Stp.call rfl Try.call72 (lks rfl) (fun E' le hat => put_fine E' _ (by omega) (by omega)) ?_) rfl
  rintro _ _ ⟨s46, hz46, rfl, rfl⟩
  refine Ops.u (Dtu.mv (lk rfl)) rfl ?_
  refine Ops.u (Dtu.ext (lk rfl) rfl) rfl ?_
  refine Ops.u (Dtu.ext (lk rfl) rfl) rfl ?_
  refine Ops.u (Dtu.asg (lk rfl)) rfl ?_
  refine Ops.u (Dtu.asg (lk rfl)) rfl ?_
  refine Ops.nil ?_
  refine Then.next ?_
  refine Body.seq ?_
  refine Body.region ?_
  refine Ops.u (Dtu.mv (lk rfl)) rfl ?_
  refine Ops.u (Dtu.fld fa62_1 (lk rfl)) rfl ?_
  refine Ops.d (Det.ld Try.isAgg9 (lk rfl) (Rd.ow 6 rfl rfl)) rfl ?_
  refine Ops.u (Dtu.fld fa62_1 (lk rfl)) rfl ?_
  refine Ops.d (Det.ld Try.isAgg9 (lk rfl) (Rd.ow 5 rfl rfl)) rfl ?_
  refine Ops.u (Dtu.neStr (lk rfl) (lk rfl)) rfl ?_
  refine Ops.u (Dtu.fld fa62_1 (lk rfl)) rfl ?_
  refine Ops.d (Det.ld Try.isAgg9 (lk rfl) (Rd.ow 5 rfl rfl)) rfl ?_
  refine Ops.s (Stp.cvtSB Try.underlying9 Try.underlying23 Try.underlying5 (lk rfl) (by first | omega | (dsimp only; omega)) (fun v57 => ?_)) rfl
  refine Ops.pure (Sl.isSl (Sl.rsl 0 rfl)) fun h57 => ?_
  obtain ⟨ca, cm, cc, rfl⟩ := h57
  refine Ops.s (Stp.callClo [3, 3] rfl (cap := [.pointer (some ⟨b8, 0, none⟩)]) (lk rfl) Try.call71 (lks rfl) (fun E' le hat => add_ok E' (decide (a.title.toList ≠ b.title.toList)) ⟨2, ca, cm, cc, numsOf b.title⟩ b8 la lm lc [⟨1, pa, pm, pc, difB (View.mk a.v.rows a.v.cols a.v.cells a.v.row a.v.col a.v.vis) (View.mk b.v.rows b.v.cols b.v.cells b.v.row b.v.col b.v.vis)⟩] (by simp)) ?_) rfl
  rintro _ _ ⟨l1, l2, l3, rfl⟩
  generalize hF2 : ([⟨1, pa, pm, pc, difB (View.mk a.v.rows a.v.cols a.v.cells a.v.row a.v.col a.v.vis) (View.mk b.v.rows b.v.cols b.v.cells b.v.row b.v.col b.v.vis)⟩] ++ if decide (a.title.toList ≠ b.title.toList) = true then [⟨2, ca, cm, cc, numsOf b.title⟩] else [] : List Fld) = F2
  have hF2l : F2.length ≤ 2 := by rw [← hF2]; split <;> simp
  refine Ops.nil ?_
  refine Then.next ?_
  refine Body.seq ?_
  refine Body.draw mixed ?_
  refine AB.u 0 rfl (by decide +kernel) (Dtu.mv (lk rfl)) rfl ?_
  refine AB.d 1 rfl (by decide +kernel) rfl (Det.lda Try.isAgg62 Try.sizeOf62 (lk rfl) (Rds.ow (m := 10) 7 rfl rfl) rfl) rfl ?_
  refine AB.d 3 rfl (by decide +kernel) rfl (Det.lda Try.isAgg62 Try.sizeOf62 (lk rfl) (Rds.ow (m := 10) 6 rfl rfl) rfl) rfl ?_
  refine AB.u 6 rfl (by decide +kernel) (Dtu.mv (lk rfl)) rfl ?_
  refine AB.u 7 rfl (by decide +kernel) (Dtu.fld fa62_2 (lk rfl)) rfl ?_
  refine AB.d 8 rfl (by decide +kernel) rfl (Det.ld Try.isAgg9 (lk rfl) (Rd.ow 6 rfl rfl)) rfl ?_
  refine AB.s 2 rfl (by decide +kernel) (by decide +kernel) (Stp.call rfl Try.call54 (lks rfl) (fun E' le hat => clipping_ok E' ⟨⟨_, _, _, _, _, _⟩, _, _, _, _⟩ _ _ _) ?_) rfl
  rintro _ _ ⟨rfl, rfl⟩
  refine AB.s 4 rfl (by decide +kernel) (by decide +kernel) (Stp.call rfl Try.call54 (lks rfl) (fun E' le hat => clipping_ok E' ⟨⟨_, _, _, _, _, _⟩, _, _, _, _⟩ _ _ _) ?_) rfl
  rintro _ _ ⟨rfl, rfl⟩
  refine AB.u 5 rfl (by decide +kernel) (Dtu.neS eqGuard109 (eq109 _ _) (lk rfl) (lk rfl)) rfl ?_
  refine AB.s 9 rfl (by decide +kernel) (by decide +kernel) (Stp.appendStr 4 Try.underlying23 Try.underlying9 ty5 rfl rfl (lk rfl) (lk rfl) (by first | omega | (dsimp only; omega)) (by first | omega | (dsimp only; omega)) (fun v68 => ?_)) rfl
  refine AB.pure (Sl.isSl (Sl.osl 4 rfl)) fun h68 => ?_
  obtain ⟨da, dm, dc, rfl⟩ := h68
  refine AB.s 10 rfl (by decide +kernel) (by decide +kernel) (Stp.callClo [0, 0] rfl (cap := [.pointer (some ⟨b8, 0, none⟩)]) (lk rfl) Try.call71 (lks rfl) (fun E' le hat => add_ok E' (!((a.clip.toList == b.clip.toList) && ((a.clips == b.clips) && true))) ⟨3, da, dm, dc, putL b.clips ++ numsOf b.clip⟩ b8 l1 l2 l3 F2 (by omega)) ?_) rfl
  rintro _ _ ⟨m1, m2, m3, rfl⟩
  generalize hF3 : (F2 ++ if (!((a.clip.toList == b.clip.toList) && ((a.clips == b.clips) && true))) = true then [⟨3, da, dm, dc, putL b.clips ++ numsOf b.clip⟩] else [] : List Fld) = F3
  have hF3l : F3.length ≤ 3 := by rw [← hF3]; split <;> simp <;> omega
  refine AB.done (by decide +kernel) ?_
  refine Then.next ?_
  refine Body.seq ?_
  refine Body.region ?_
  refine Ops.u (Dtu.mv (lk rfl)) rfl ?_
  refine Ops.u (Dtu.fld fa62_4 (lk rfl)) rfl ?_
  refine Ops.d (Det.ld Try.isAgg22 (lk rfl) (Rd.ow 7 rfl rfl)) rfl ?_
  refine Ops.u (Dtu.fld fa62_4 (lk rfl)) rfl ?_
  refine Ops.d (Det.ld Try.isAgg22 (lk rfl) (Rd.ow 6 rfl rfl)) rfl ?_
  refine Ops.u (Dtu.neq (lk rfl) (lk rfl)) rfl ?_
  refine Ops.u (Dtu.mv (lk rfl)) rfl ?_
  refine Ops.pure (Sl.isSl (Sl.osl 3 rfl)) fun h46 => ?_
  obtain ⟨ea, em, ec, rfl⟩ := h46
  refine Ops.s (Stp.callClo [0, 0] rfl (cap := [.pointer (some ⟨b8, 0, none⟩)]) (lk rfl) Try.call71 (lks rfl) (fun E' le hat => add_ok E' (decide (a.bells ≠ b.bells)) ⟨4, ea, em, ec, putL b.bells⟩ b8 m1 m2 m3 F3 (by omega)) ?_) rfl
  rintro _ _ ⟨n1, n2, n3, rfl⟩
  generalize hF4 : (F3 ++ if decide (a.bells ≠ b.bells) = true then [⟨4, ea, em, ec, putL b.bells⟩] else [] : List Fld) = F4
  have hF4l : F4.length ≤ 4 := by rw [← hF4]; split <;> simp <;> omega
  have hmem : ∀ f ∈ F4, f = ⟨1, pa, pm, pc, difB (View.mk a.v.rows a.v.cols a.v.cells a.v.row a.v.col a.v.vis) (View.mk b.v.rows b.v.cols b.v.cells b.v.row b.v.col b.v.vis)⟩ ∨ f = ⟨2, ca, cm, cc, numsOf b.title⟩ ∨ f = ⟨3, da, dm, dc, putL b.clips ++ numsOf b.clip⟩ ∨ f = ⟨4, ea, em, ec, putL b.bells⟩ := by
    intro f hf
    rw [← hF4, ← hF3, ← hF2] at hf
    simp only [List.mem_append] at hf
    rcases hf with ((hf | hf) | hf) | hf
    · exact .inl (List.mem_singleton.1 hf)
    · split at hf
      · exact .inr (.inl (List.mem_singleton.1 hf))
      · cases hf
    · split at hf
      · exact .inr (.inr (.inl (List.mem_singleton.1 hf)))
      · cases hf
    · split at hf
      · exact .inr (.inr (.inr (List.mem_singleton.1 hf)))
      · cases hf
  have hdl : (difB (View.mk a.v.rows a.v.cols a.v.cells a.v.row a.v.col a.v.vis) (View.mk b.v.rows b.v.cols b.v.cells b.v.row b.v.col b.v.vis)).length ≤ 8192 := by
    have h1 : (difB (View.mk a.v.rows a.v.cols a.v.cells a.v.row a.v.col a.v.vis) (View.mk b.v.rows b.v.cols b.v.cells b.v.row b.v.col b.v.vis)).length ≤ 5 + 17 * others (difP (View.mk a.v.rows a.v.cols a.v.cells a.v.row a.v.col a.v.vis) (View.mk b.v.rows b.v.cols b.v.cells b.v.row b.v.col b.v.vis)) := (difB_len kav kbv).1
    have h2 : (difP (View.mk a.v.rows a.v.cols a.v.cells a.v.row a.v.col a.v.vis) (View.mk b.v.rows b.v.cols b.v.cells b.v.row b.v.col b.v.vis)).length = b.v.cells.length := difP_len kav kbv
    have h3 : b.v.cells.length ≤ 480 := (ok_480 kbv).2
    have h4 := others_le (difP (View.mk a.v.rows a.v.cols a.v.cells a.v.row a.v.col a.v.vis) (View.mk b.v.rows b.v.cols b.v.cells b.v.row b.v.col b.v.vis))
    omega
  have hdd : ∀ E', Sl E' [] 1 (.slice pa pm pc) (difB (View.mk a.v.rows a.v.cols a.v.cells a.v.row a.v.col a.v.vis) (View.mk b.v.rows b.v.cols b.v.cells b.v.row b.v.col b.v.vis)).length ((difB (View.mk a.v.rows a.v.cols a.v.cells a.v.row a.v.col a.v.vis) (View.mk b.v.rows b.v.cols b.v.cells b.v.row b.v.col b.v.vis)).map (.int .u8)) → Sl E' [] 1 (.slice ca cm cc) b.title.size ((numsOf b.title).map (.int .u8)) → Sl E' [] 1 (.slice da dm dc) (sizeS b.clips + b.clip.size) ((putL b.clips).map (.int .u8) ++ strCs b.clip) → Sl E' [] 1 (.slice ea em ec) (sizeS b.bells) ((putL b.bells).map (.int .u8)) → ∀ f ∈ F4, f.has E' [] := by
    intro E' s1 s2 s3 s4 f hf
    rcases hmem f hf with rfl | rfl | rfl | rfl
    · exact s1
    · simpa [Fld.has, numsOf_len] using s2
    · simpa [Fld.has, numsOf_len, putL_len, strCs] using s3
    · simpa [Fld.has, putL_len] using s4
  have hll : ∀ f ∈ F4, f.data.length ≤ 16384 := by
    intro f hf
    have hz2 := sizeS_le b.bells
    rcases hmem f hf with rfl | rfl | rfl | rfl
    · dsimp only; omega
    · simp only [numsOf_len]; omega
    · simp only [List.length_append, numsOf_len, putL_len]; omega
    · simp only [putL_len]; omega
  have hfin : F4.flatMap (fun f => fldB f.tag f.data) = sdifB a b := by
    rw [← hF4, ← hF3, ← hF2]
    simp only [sdifB, sdifL, List.flatMap_append]
    congr 1
    · congr 1
      · congr 1
        by_cases h : a.title.toList = b.title.toList <;> simp [h]
      · by_cases h : a.clip.toList = b.clip.toList <;> by_cases h2 : a.clips = b.clips <;> simp [h, h2]
    · by_cases h : a.bells = b.bells <;> simp [h]
  refine Ops.nil ?_
  refine Then.next ?_
  refine Body.seq ?_
  refine Body.region ?_
  refine Ops.d (Det.ld Try.isAgg134 (lk rfl) (Rd.ow 0 rfl rfl)) rfl ?_
  refine Ops.s (Stp.call rfl Try.call73 (lks rfl) (fun E' le hat => putFields_ok E' _ F4 (Sl.at (hat _ (.tail _ (.head _)))) (hdd E' (Sl.at (hat _ (.tail _ (.tail _ (.tail _ (.tail _ (.tail _ (.head _)))))))) (Sl.atR (hat _ (.tail _ (.tail _ (.head _))))) (Sl.at (hat _ (.tail _ (.tail _ (.tail _ (.tail _ (.head _))))))) (Sl.at (hat _ (.tail _ (.tail _ (.tail _ (.head _))))))) (by omega) hll) ?_) rfl
  rintro _ _ ⟨s79, rfl, rfl⟩
  refine Ops.u (Dtu.ext (lk rfl) rfl) rfl ?_
  refine Ops.u (Dtu.ext (lk rfl) rfl) rfl ?_
  refine Ops.u (Dtu.asg (lk rfl)) rfl ?_
  refine Ops.u (Dtu.asg (lk rfl)) rfl ?_
  refine Ops.nil ?_
  refine Then.next ?_
  refine Body.ret ?_
  exact ⟨.inr rfl, _, pk [0] rfl, s79, rfl, by rw [hfin]⟩
end Go.Proofs.Ytagcpamchgpgiaa
end
section
/- The fields that bytes have; the first one of a tag. -/
namespace Go.Proofs.Ytagcpamchgpgiaa
set_option maxRecDepth 100000
set_option linter.unusedVariables false
set_option linter.unusedSimpArgs false
open Go.Sx

/-- slices.Clone at one type -/
theorem cloneB_ok (E : Env) (v : Value) (m : Nat) (vs : List Value) (h : Sl E [] 1 v m vs) (h1 : vs.all (·.oneCell') = true) (hb : m * 1 ≤ 140737488355328) : Does Try.prog 38 #[v] E [] fun r H' => H' = [osl 5 1 r m vs] ∧ IsSl r := by
  refine Does.go (args := [v]) _ _ Try.func38 rfl Try.ntmps38 rfl rfl ?_
  refine Body.seq ?_
  refine Body.region ?_
  refine Ops.u (Dtu.asg (lk rfl)) rfl ?_
  refine Ops.nil ?_
  refine Then.next ?_
  refine Body.seq ?_
  refine Body.seq ?_
  refine Body.region ?_
  refine Ops.u (Dtu.mv (lk rfl)) rfl ?_
  refine Ops.u (Dtu.nilS Try.underlying23 (Sl.up h) (lk rfl)) rfl ?_
  refine Ops.nil ?_
  refine Then.next ?_
  refine Body.cond (lk rfl) (fun c4 => ?_) (fun c4 => ?_)
  · refine Body.pure (h.nil0 c4) ?_
    rintro ⟨rfl, rfl⟩
    refine Body.seq ?_
    refine Body.region ?_
    refine Ops.u (Dtu.asg (lk rfl)) rfl ?_
    refine Ops.nil ?_
    refine Then.next ?_
    refine Body.ret ?_
    refine Then.ret ?_
    exact ⟨.inr rfl, _, fun w s => osl_nil (pk [] rfl w s), rfl, ⟨_, _, _, rfl⟩⟩
  · refine Body.pure h.len ?_
    rintro ⟨hl, hm⟩
    refine Body.skip ?_
    refine Then.next ?_
    refine Body.seq ?_
    refine Body.region ?_
    refine Ops.s (Stp.buildSlice0 Try.underlying23 ty5 (fun b5 => ?_)) rfl
    refine Ops.u (Dtu.mv (lk rfl)) rfl ?_
    refine Ops.s (Stp.appendNew Try.underlying23 ty5 rfl (lk rfl) (lk rfl) h.up h1 hb hm (fun v7 => ?_)) rfl
    refine Ops.pure (Sl.isSl (Sl.osl 0 rfl)) fun hsl => ?_
    refine Ops.u (Dtu.asg (lk rfl)) rfl ?_
    refine Ops.nil ?_
    refine Then.next ?_
    refine Body.ret ?_
    exact ⟨.inr rfl, _, pk [0] rfl, rfl, hsl⟩

theorem all_u8 (l : List Int) : (l.map (Value.int .u8)).all (·.oneCell') = true := by
  rw [List.all_eq_true]; intro v hv; obtain ⟨x, _, rfl⟩ := List.mem_map.1 hv; rfl
def Fld.own (f : Fld) : HProp := osl 5 1 (.slice f.a f.m f.c) f.data.length (f.data.map (.int .u8))
abbrev TF := Int × List Int
def Fld.tf (f : Fld) : TF := (f.tag, f.data)
/-- the fields from a place on, or why there are none -/
def readFs (bs : List Int) : Nat → List TF → Nat → Int ⊕ List TF
  | 0, _, _ => .inl 0
  | k + 1, fs, a =>
    if a < bs.length then
      if fs.length = 128 then .inl 5
      else if (getS bs (a + 1)).2.2 ≠ 0 then .inl (getS bs (a + 1)).2.2
      else if 16384 < (getS bs (a + 1)).1 then .inl 2
      else if (bs.length : Int) - (getS bs (a + 1)).2.1 < (getS bs (a + 1)).1 then .inl 10
      else readFs bs k (fs ++ [(bs[a]!, (bs.drop (getS bs (a + 1)).2.1.toNat).take (getS bs (a + 1)).1.toNat)]) ((getS bs (a + 1)).2.1.toNat + (getS bs (a + 1)).1.toNat)
    else .inr fs
/-- the fields that bytes have -/
def fieldsP (bs : List Int) : Int ⊕ List TF := readFs bs (bs.length + 1) [] 0
set_option maxHeartbeats 3200000 in
theorem fields_ok (E : Env) (b : Value) (bs : List Int) (h : Sl E [] 1 b bs.length (bs.map (.int .u8))) (hb : Byt bs) (hmax : bs.length ≤ 100000) : Does Try.prog 74 #[b] E [] fun r H' =>
    match fieldsP bs with
    | .inr rs => ∃ (z1 : Option Addr) (z2 z3 : Nat) (L : List Fld), r = .tuple #[.slice z1 z2 z3, .int .i64 0] ∧ H' = [osl 133 2 (.slice z1 z2 z3) L.length (L.flatMap Fld.enc), many (L.map Fld.own)] ∧ L.map Fld.tf = rs
    | .inl e => r = .tuple #[.slice none 0 0, .int .i64 e] ∧ H' = [] := by
  refine Does.pure h.len fun hlen => ?_
  refine Does.go (args := [b]) _ _ Try.func74 rfl Try.ntmps74 rfl rfl ?_
  refine Body.seq ?_
  refine Body.region ?_
  refine Ops.u (Dtu.asg (lk rfl)) rfl ?_
  refine Ops.u (Dtu.asg (lk rfl)) rfl ?_
  refine Ops.nil ?_
  refine Then.next ?_
  refine Body.seq ?_
  refine Body.region ?_
  refine Ops.u (Dtu.asg (lk rfl)) rfl ?_
  refine Ops.nil ?_
  refine Then.next ?_
  refine Body.seq ?_
  refine Body.region ?_
  refine Ops.u (Dtu.asg (lk rfl)) rfl ?_
  refine Ops.nil ?_
  refine Then.next ?_
  refine Body.seq ?_
  refine Body.block ?_
  refine Body.conseq (H' := [osl 133 2 (.slice none 0 0) 0 [], many []]) (fun w s => osl_nil (many_nil s)) ?_
  refine Body.loopF (γ := Nat × List Fld × Nat × Value) rfl (fun g => [(5, .int .i64 g.2.2.1), (4, g.2.2.2)]) (fun g => [osl 133 2 g.2.2.2 g.2.1.length (g.2.1.flatMap Fld.enc), many (g.2.1.map Fld.own)])
    (fun g => readFs bs g.1 (g.2.1.map Fld.tf) g.2.2.1 = fieldsP bs ∧ g.2.2.1 ≤ bs.length ∧ bs.length - g.2.2.1 < g.1 ∧ g.2.1.length ≤ g.2.2.1 ∧ g.2.1.length ≤ 128) (fun g => g.1) (bs.length + 1, [], 0, .slice none 0 0) ⟨rfl, by simp, by simp, by simp, by simp⟩ ⟨rfl, rfl, trivial⟩ rfl ?_
  rintro ⟨k, L, a, O⟩ u ⟨hr, ha1, hk, hn, hn2⟩
  dsimp only at hr ha1 hk hn hn2 ⊢
  refine Body.pure (Sl.isSl (Sl.osl 0 rfl)) fun hO => ?_
  obtain ⟨z1, z2, z3, rfl⟩ := hO
  obtain ⟨k, rfl⟩ : ∃ k', k = k' + 1 := ⟨k - 1, by omega⟩
  have g1 := getS_bound bs hb (a + 1)
  have g2 := getS_next bs (a + 1)
  rw [readFs] at hr
  refine Body.seq ?_
  refine Body.seq ?_
  refine Body.region ?_
  refine Ops.u (Dtu.mv (lk rfl)) rfl ?_
  refine Ops.u (Dtu.mv (lk rfl)) rfl ?_
  refine Ops.u (Dtu.lenS Try.underlying23 (Sl.up h) (lk rfl)) rfl ?_
  refine Ops.u (Dtu.lss (lk rfl) (lk rfl)) rfl ?_
  refine Ops.nil ?_
  refine Then.next ?_
  refine Body.condP (lk rfl) (fun c13 => ?_) (fun c13 => ?_)
  · rw [if_pos (by omega)] at hr
    refine Body.skip ?_
    refine Then.next ?_
    refine Body.block ?_
    refine Body.seq ?_
    refine Body.seq ?_
    refine Body.region ?_
    refine Ops.u (Dtu.mv (lk rfl)) rfl ?_
    refine Ops.u (Dtu.lenS Try.underlying134 (Sl.osl 0 rfl) (lk rfl)) rfl ?_
    refine Ops.u (Dtu.eql (lk rfl) (lk rfl)) rfl ?_
    refine Ops.nil ?_
    refine Then.next ?_
    refine Body.condP (lk rfl) (fun c16 => ?_) (fun c16 => ?_)
    · rw [if_pos (by simp; omega)] at hr
      refine Body.seq ?_
      refine Body.region ?_
      refine Ops.u (Dtu.asg (lk rfl)) rfl ?_
      refine Ops.u (Dtu.asg (lk rfl)) rfl ?_
      refine Ops.nil ?_
      refine Then.next ?_
      refine Body.ret ?_
      refine Then.ret ?_
      refine Blk.ret ?_
      refine Round.ret ?_
      refine Blk.ret ?_
      refine Then.ret ?_
      rw [← hr]
      exact ⟨.inr rfl, _, pk [] rfl, rfl, rfl⟩
    · rw [if_neg (by simp; omega)] at hr
      refine Body.skip ?_
      refine Then.next ?_
      refine Body.seq ?_
      refine Body.region ?_
      refine Ops.u (Dtu.mv (lk rfl)) rfl ?_
      refine Ops.u (Dtu.mv (lk rfl)) rfl ?_
      refine Ops.u (Dtu.add (lk rfl) (lk rfl) (w64 (by omega) (by omega))) rfl ?_
      refine Ops.s (Stp.call rfl Try.call77 (lks rfl) (fun E' le hat => get_ok E' _ _ _ (Sl.mono (by assumption) le) (by assumption)) ?_) rfl
      rintro _ _ ⟨rfl, rfl⟩
      refine Ops.u (Dtu.mv (lk rfl)) rfl ?_
      refine Ops.u (Dtu.ext (lk rfl) rfl) rfl ?_
      refine Ops.u (Dtu.ext (lk rfl) rfl) rfl ?_
      refine Ops.u (Dtu.ext (lk rfl) rfl) rfl ?_
      refine Ops.u (Dtu.asg (lk rfl)) rfl ?_
      refine Ops.u (Dtu.asg (lk rfl)) rfl ?_
      refine Ops.u (Dtu.asg (lk rfl)) rfl ?_
      refine Ops.nil ?_
      refine Then.next ?_
      refine Body.seq ?_
      refine Body.block ?_
      refine Body.seq ?_
      refine Body.region ?_
      refine Ops.u (Dtu.mv (lk rfl)) rfl ?_
      refine Ops.u (Dtu.neq (lk rfl) (lk rfl)) rfl ?_
      refine Ops.u (Dtu.asg (lk rfl)) rfl ?_
      refine Ops.nil ?_
      refine Then.next ?_
      refine Body.condP (lk rfl) (fun c25 => ?_) (fun c25 => ?_)
      · rw [if_pos (by assumption)] at hr
        refine Body.seq ?_
        refine Body.region ?_
        refine Ops.u (Dtu.mv (lk rfl)) rfl ?_
        refine Ops.u (Dtu.asg (lk rfl)) rfl ?_
        refine Ops.u (Dtu.asg (lk rfl)) rfl ?_
        refine Ops.nil ?_
        refine Then.next ?_
        refine Body.ret ?_
        refine Blk.ret ?_
        refine Then.ret ?_
        refine Blk.ret ?_
        refine Round.ret ?_
        refine Blk.ret ?_
        refine Then.ret ?_
        rw [← hr]
        exact ⟨.inr rfl, _, pk [] rfl, rfl, rfl⟩
      · rw [if_neg (by assumption)] at hr
        have e1 := g2 (by omega)
        refine Body.seq ?_
        refine Body.region ?_
        refine Ops.u (Dtu.mv (lk rfl)) rfl ?_
        refine Ops.u (Dtu.gtr (lk rfl) (lk rfl)) rfl ?_
        refine Ops.u (Dtu.asg (lk rfl)) rfl ?_
        refine Ops.nil ?_
        refine Then.next ?_
        refine Body.condP (lk rfl) (fun c29 => ?_) (fun c29 => ?_)
        · rw [if_pos (by omega)] at hr
          refine Body.seq ?_
          refine Body.region ?_
          refine Ops.u (Dtu.asg (lk rfl)) rfl ?_
          refine Ops.u (Dtu.asg (lk rfl)) rfl ?_
          refine Ops.nil ?_
          refine Then.next ?_
          refine Body.ret ?_
          refine Blk.ret ?_
          refine Then.ret ?_
          refine Blk.ret ?_
          refine Round.ret ?_
          refine Blk.ret ?_
          refine Then.ret ?_
          rw [← hr]
          exact ⟨.inr rfl, _, pk [] rfl, rfl, rfl⟩
        · rw [if_neg (by omega)] at hr
          refine Body.seq ?_
          refine Body.region ?_
          refine Ops.u (Dtu.mv (lk rfl)) rfl ?_
          refine Ops.u (Dtu.mv (lk rfl)) rfl ?_
          refine Ops.u (Dtu.lenS Try.underlying23 (Sl.up h) (lk rfl)) rfl ?_
          refine Ops.u (Dtu.mv (lk rfl)) rfl ?_
          refine Ops.u (Dtu.sub (lk rfl) (lk rfl) (w64 (by omega) (by omega))) rfl ?_
          refine Ops.u (Dtu.cvt Try.underlying3 Try.underlying22 (lk rfl) (wu64 (by omega) (by omega))) rfl ?_
          refine Ops.u (Dtu.gtr (lk rfl) (lk rfl)) rfl ?_
          refine Ops.u (Dtu.asg (lk rfl)) rfl ?_
          refine Ops.nil ?_
          refine Then.next ?_
          refine Body.condP (lk rfl) (fun c32 => ?_) (fun c32 => ?_)
          · rw [if_pos (by omega)] at hr
            refine Body.seq ?_
            refine Body.region ?_
            refine Ops.u (Dtu.asg (lk rfl)) rfl ?_
            refine Ops.u (Dtu.asg (lk rfl)) rfl ?_
            refine Ops.nil ?_
            refine Then.next ?_
            refine Body.ret ?_
            refine Blk.ret ?_
            refine Then.ret ?_
            refine Blk.ret ?_
            refine Round.ret ?_
            refine Blk.ret ?_
            refine Then.ret ?_
            rw [← hr]
            exact ⟨.inr rfl, _, pk [] rfl, rfl, rfl⟩
          · rw [if_neg (by omega)] at hr
            obtain ⟨q, hq⟩ := Int.eq_ofNat_of_zero_le g1.1
            obtain ⟨p, hp⟩ := Int.eq_ofNat_of_zero_le (show 0 ≤ (getS bs (a + 1)).2.1 by omega)
            rw [hq, hp, Int.toNat_natCast, Int.toNat_natCast] at hr
            have i1 : (q : Int) ≤ 16384 := by omega
            have i2 : p + q ≤ bs.length := by omega
            have i3 : a + 1 < p := by omega
            rw [hq, hp]
            have hsub : Sl E [] 1 (subSl b 1 p (p + q) (capOf b)) q (((bs.drop p).take q).map (.int .u8)) := by
              have := Sl.subM h p (p + q) (by omega) i2; rwa [Nat.add_sub_cancel_left] at this
            refine Body.skip ?_
            refine Blk.norm ?_
            refine Then.next ?_
            refine Body.seq ?_
            refine Body.region ?_
            refine Ops.u (Dtu.mv (lk rfl)) rfl ?_
            refine Ops.u (Dtu.mv (lk rfl)) rfl ?_
            refine Ops.u (Dtu.cvt Try.underlying22 Try.underlying3 (lk rfl) (w64 (by omega) (by omega))) rfl ?_
            refine Ops.u (Dtu.add (lk rfl) (lk rfl) (w64 (by omega) (by omega))) rfl ?_
            refine Ops.u (Dtu.asg (lk rfl)) rfl ?_
            refine Ops.nil ?_
            refine Then.next ?_
            refine Body.seq ?_
            refine Body.draw mixed ?_
            refine AB.u 0 rfl (by decide +kernel) (Dtu.mv (lk rfl)) rfl ?_
            refine AB.u 1 rfl (by decide +kernel) (Dtu.mv (lk rfl)) rfl ?_
            refine AB.u 2 rfl (by decide +kernel) (Dtu.mv (lk rfl)) rfl ?_
            refine AB.u 3 rfl (by decide +kernel) (Dtu.ix (i := (a)) Try.underlying23 Try.sizeOf5 (Sl.up h) (lk rfl) (lk rfl) (by omega) (by omega)) rfl ?_
            refine AB.d 4 rfl (by decide +kernel) rfl (Det.ld Try.isAgg5 (lk rfl) (Rd.sl (Sl.up h) (gm (by omega)))) rfl ?_
            refine AB.u 5 rfl (by decide +kernel) (Dtu.mv (lk rfl)) rfl ?_
            refine AB.u 6 rfl (by decide +kernel) (Dtu.mv (lk rfl)) rfl ?_
            refine AB.u 7 rfl (by decide +kernel) (Dtu.mv (lk rfl)) rfl ?_
            refine AB.u 8 rfl (by decide +kernel) (Dtu.slLH (p) (p + q) Try.underlying23 Try.sizeOf5 (Sl.up h) (lk rfl) (lk rfl) (lk rfl) (by omega) (by omega) (by omega) (by omega)) rfl ?_
            refine AB.s 9 rfl (by decide +kernel) (by decide +kernel) (Stp.call rfl Try.call38 (lks rfl) (fun E' le hat => cloneB_ok E' _ _ _ (Sl.mono (by assumption) le) (all_u8 _) (by omega)) ?_) rfl
            rintro _ _ ⟨rfl, za53, zm53, zc53, rfl⟩
            refine AB.u 10 rfl (by decide +kernel) (Dtu.build ty133 pl133 (lkp rfl) rfl rfl) rfl ?_
            refine AB.s 11 rfl (by decide +kernel) (by decide +kernel) (Stp.buildSliceO Try.underlying134 ty133 (by decide) (by decide) (lkp rfl) rfl rfl rfl (by decide) (fun v55 => ?_)) rfl
            refine AB.s 12 rfl (by decide +kernel) (by decide +kernel) (Stp.append 2 Try.underlying134 ty133 rfl rfl (lk rfl) (lk rfl) (Sl.osl 0 rfl) (by first | rfl | exact all_map (fun _ => rfl) _ | exact all_flat (fun _ => rfl) _) (by omega) (by omega) (fun v56 => ?_)) rfl
            refine AB.u 13 rfl (by decide +kernel) (Dtu.asg (lk rfl)) rfl ?_
            refine AB.done (by decide +kernel) ?_
            refine Then.next ?_
            refine Body.region ?_
            refine Ops.u (Dtu.mv (lk rfl)) rfl ?_
            refine Ops.u (Dtu.asg (lk rfl)) rfl ?_
            refine Ops.nil ?_
            refine Blk.norm ?_
            have hx : (getS bs (a + 1)).2.1 + (getS bs (a + 1)).1 = ((p + q : Nat) : Int) := by omega
            refine Round.goW (k, L ++ [⟨bs[a]!, za53, zm53, zc53, (bs.drop p).take q⟩], p + q, v56) rfl rfl rfl ⟨int_eq (by dsimp only; omega), rfl, trivial⟩ (fun w s => ?_) ⟨?_, by dsimp only; omega, by dsimp only; omega, by simp; omega, by simp; omega⟩ (by simp)
            · have hql : ((bs.drop p).take q).length = q := by simp; omega
              have s1 := s.front [1, 2] rfl
              have s2 := many_snoc s1
              have s3 := pk [2, 0] rfl w s2
              dsimp only
              simp only [List.length_append, List.length_cons, List.length_nil, List.flatMap_append, List.flatMap_cons, List.flatMap_nil, List.map_append, List.map_cons, List.map_nil, List.append_nil, Fld.own, Fld.enc, hql]
              exact s3
            · dsimp only
              rw [← hr]; simp [Fld.tf]
  · rw [if_neg (by omega)] at hr
    refine Body.exit ?_
    refine Then.exit ?_
    refine Round.exit ?_
    refine Blk.here ?_
    refine Then.next ?_
    refine Body.seq ?_
    refine Body.region ?_
    refine Ops.u (Dtu.mv (lk rfl)) rfl ?_
    refine Ops.u (Dtu.asg (lk rfl)) rfl ?_
    refine Ops.u (Dtu.asg (lk rfl)) rfl ?_
    refine Ops.nil ?_
    refine Then.next ?_
    refine Body.ret ?_
    rw [← hr]
    exact ⟨.inr rfl, _, pk [0, 0] rfl, z1, z2, z3, L, rfl, rfl, rfl⟩
end Go.Proofs.Ytagcpamchgpgiaa
end
section
/- The first field of a tag. -/
namespace Go.Proofs.Ytagcpamchgpgiaa
set_option maxRecDepth 100000
set_option linter.unusedVariables false
set_option linter.unusedSimpArgs false
open Go.Sx

theorem tagIs_ok (E : Env) (f : Fld) (t : Int) (b : Nat) : Does Try.prog 100 #[.agg f.enc.toArray, .pointer (some ⟨b, 0, none⟩)] E [own b [.int .u8 t] 5] fun r H' => r = .bool (decide (f.tag = t)) ∧ H' = [own b [.int .u8 t] 5] := by
  refine Does.go (args := [.agg f.enc.toArray, .pointer (some ⟨b, 0, none⟩)]) _ _ Try.func100 rfl Try.ntmps100 rfl rfl ?_
  refine Body.seq ?_
  refine Body.region ?_
  refine Ops.s (Stp.box (lk rfl) rfl (fun b2 => ?_)) rfl
  refine Ops.u (Dtu.asg (lk rfl)) rfl ?_
  refine Ops.nil ?_
  refine Then.next ?_
  refine Body.seq ?_
  refine Body.region ?_
  refine Ops.u (Dtu.fld fa133_0 (lk rfl)) rfl ?_
  refine Ops.d (Det.ld Try.isAgg5 (lk rfl) (Rd.ow 0 rfl rfl)) rfl ?_
  refine Ops.d (Det.ld Try.isAgg5 (lk rfl) (Rd.ow 1 rfl rfl)) rfl ?_
  refine Ops.u (Dtu.eql (lk rfl) (lk rfl)) rfl ?_
  refine Ops.u (Dtu.asg (lk rfl)) rfl ?_
  refine Ops.nil ?_
  refine Then.next ?_
  refine Body.ret ?_
  exact ⟨.inr rfl, _, pk [1] rfl, rfl, rfl⟩
theorem indexF_ok (E : Env) (s : Value) (L : List Fld) (t : Int) (b : Nat) (h : Sl E [] 2 s L.length (L.flatMap Fld.enc)) : Does Try.prog 99 #[s, .func (.func 100) #[] #[.pointer (some ⟨b, 0, none⟩)]] E [own b [.int .u8 t] 5] fun r H' => r = .int .i64 (firstAt (fun f => decide (f.tag = t)) L) ∧ H' = [own b [.int .u8 t] 5] := by
  refine Does.pure (Sl.up h).len fun hlen => ?_
  refine Does.go (args := [s, .func (.func 100) #[] #[.pointer (some ⟨b, 0, none⟩)]]) _ _ Try.func99 rfl Try.ntmps99 rfl rfl ?_
  refine Body.seq ?_
  refine Body.region ?_
  refine Ops.u (Dtu.asg (lk rfl)) rfl ?_
  refine Ops.nil ?_
  refine Then.next ?_
  refine Body.seq ?_
  refine Body.seq ?_
  refine Body.region ?_
  refine Ops.u (Dtu.mv (lk rfl)) rfl ?_
  refine Ops.u (Dtu.lenS Try.underlying134 (Sl.up h) (lk rfl)) rfl ?_
  refine Ops.u (Dtu.mv (lk rfl)) rfl ?_
  refine Ops.nil ?_
  refine Then.next ?_
  refine Body.block ?_
  refine Body.loopF (γ := Nat) rfl (fun k => [(8, .int .i64 k)]) (fun _ => [own b [.int .u8 t] 5]) (fun k => k ≤ L.length ∧ ∀ j, j < k → decide (L[j]!.tag = t) = false) (fun k => L.length - k) 0 ⟨by omega, fun j hj => by omega⟩ ⟨rfl, trivial⟩ rfl ?_
  rintro k u ⟨hk, hb⟩
  refine Body.seq ?_
  refine Body.region ?_
  refine Ops.u (Dtu.lss (lk rfl) (lk rfl)) rfl ?_
  refine Ops.nil ?_
  refine Then.next ?_
  refine Body.seq ?_
  refine Body.condP (lk rfl) (fun c9 => ?_) (fun c9 => ?_)
  · refine Body.skip ?_
    refine Then.next ?_
    refine Body.seq ?_
    refine Body.block ?_
    refine Body.seq ?_
    refine Body.region ?_
    refine Ops.u (Dtu.mv (lk rfl)) rfl ?_
    refine Ops.u (Dtu.asg (lk rfl)) rfl ?_
    refine Ops.nil ?_
    refine Then.next ?_
    refine Body.seq ?_
    refine Body.region ?_
    refine Ops.u (Dtu.mv (lk rfl)) rfl ?_
    refine Ops.u (Dtu.mv (lk rfl)) rfl ?_
    refine Ops.u (Dtu.mv (lk rfl)) rfl ?_
    refine Ops.u (Dtu.ix (i := (k)) Try.underlying134 Try.sizeOf133 (Sl.up h) (lk rfl) (lk rfl) (by omega) (by omega)) rfl ?_
    refine Ops.d (Det.lda Try.isAgg133 Try.sizeOf133 (lk rfl) (Rds.sl (Sl.up h) (gf (sz := 2) (fun _ => rfl) (by omega))) rfl) rfl ?_
    refine Ops.s (Stp.callClo [0] rfl (cap := [.pointer (some ⟨b, 0, none⟩)]) (lk rfl) Try.call100 (lks rfl) (fun E' le hat => tagIs_ok E' L[k]! t b) ?_) rfl
    rintro _ _ ⟨rfl, rfl⟩
    refine Ops.nil ?_
    refine Then.next ?_
    refine Body.condP (lk rfl) (fun c16 => ?_) (fun c16 => ?_)
    · refine Body.seq ?_
      refine Body.region ?_
      refine Ops.u (Dtu.mv (lk rfl)) rfl ?_
      refine Ops.u (Dtu.asg (lk rfl)) rfl ?_
      refine Ops.nil ?_
      refine Then.next ?_
      refine Body.ret ?_
      refine Blk.ret ?_
      refine Then.ret ?_
      refine Round.ret ?_
      refine Blk.ret ?_
      refine Then.ret ?_
      exact ⟨.inr rfl, _, pk [0] rfl, by rw [firstAt_some (p := fun f : Fld => decide (f.tag = t)) (by omega) (decide_eq_true c16) hb]; rfl, rfl⟩
    · refine Body.skip ?_
      refine Blk.norm ?_
      refine Then.next ?_
      refine Body.region ?_
      refine Ops.u (Dtu.add (lk rfl) (lk rfl) (w64 (by omega) (by omega))) rfl ?_
      refine Ops.u (Dtu.mv (lk rfl)) rfl ?_
      refine Ops.nil ?_
      refine Round.goF (k + 1) rfl rfl rfl ⟨int_eq (by omega), trivial⟩ rfl ⟨by omega, fun j hj => ?_⟩ (by omega)
      by_cases e : j = k
      · subst e; exact decide_eq_false c16
      · exact hb j (by omega)
  · refine Body.exit ?_
    refine Then.exit ?_
    refine Round.exit ?_
    refine Blk.here ?_
    refine Then.next ?_
    refine Body.seq ?_
    refine Body.region ?_
    refine Ops.u (Dtu.asg (lk rfl)) rfl ?_
    refine Ops.nil ?_
    refine Then.next ?_
    refine Body.ret ?_
    exact ⟨.inr rfl, _, pk [0] rfl, by rw [firstAt_none (p := fun f : Fld => decide (f.tag = t)) (fun j hj => hb j (by omega))]; rfl, rfl⟩
/-- the bytes of the first field of a tag -/
def findP (rs : List TF) (t : Int) : Option (List Int) := (rs.find? (fun x => decide (x.1 = t))).map (·.2)
theorem findP_map {L : List Fld} {t : Int} : findP (L.map Fld.tf) t = (L.find? (fun f => decide (f.tag = t))).map (·.data) := by
  induction L with
  | nil => rfl
  | cons f L ih =>
    unfold findP at ih ⊢
    by_cases h : f.tag = t
    · simp [Fld.tf, h]
    · simp only [List.map_cons, List.find?_cons, Fld.tf, decide_eq_false h]
      exact ih
theorem findP_some {L : List Fld} {t : Int} {i : Nat} (h : firstAt (fun f => decide (f.tag = t)) L = i) : i < L.length ∧ findP (L.map Fld.tf) t = some L[i]!.data := by
  unfold firstAt at h
  split at h
  · rename_i j hj
    obtain rfl : j = i := by omega
    rw [List.findIdx?_eq_some_iff_getElem] at hj
    obtain ⟨hj, h1, h2⟩ := hj
    refine ⟨hj, ?_⟩
    rw [findP_map, getElem!_pos L j hj, show L.find? (fun f => decide (f.tag = t)) = some L[j] from List.find?_eq_some_iff_getElem.2 ⟨h1, j, hj, rfl, fun k hk => by simpa using h2 k hk⟩]
    rfl
  · omega
theorem findP_none {L : List Fld} {t : Int} (h : firstAt (fun f => decide (f.tag = t)) L < 0) : findP (L.map Fld.tf) t = none := by
  unfold firstAt at h
  split at h
  · omega
  · rename_i hj
    rw [findP_map, List.find?_eq_none.2 (by rw [List.findIdx?_eq_none_iff] at hj; intro x hx; simpa using hj x hx)]
    rfl
theorem find_ok (E : Env) (s : Value) (L : List Fld) (t : Int) (h : Sl E [] 2 s L.length (L.flatMap Fld.enc)) (hd : ∀ f ∈ L, f.has E []) (hl : ∀ f ∈ L, f.data.length ≤ 16384) : Does Try.prog 75 #[s, .int .u8 t] E [] fun r H' =>
    match findP (L.map Fld.tf) t with
    | some d => ∃ (x1 : Option Addr) (x2 x3 : Nat), r = .tuple #[.slice x1 x2 x3, .bool true] ∧ H' = [osl 5 1 (.slice x1 x2 x3) d.length (d.map (.int .u8))]
    | none => r = .tuple #[.slice none 0 0, .bool false] ∧ H' = [] := by
  refine Does.go (args := [s, .int .u8 t]) _ _ Try.func75 rfl Try.ntmps75 rfl rfl ?_
  refine Body.seq ?_
  refine Body.region ?_
  refine Ops.s (Stp.box (lk rfl) rfl (fun b3 => ?_)) rfl
  refine Ops.u (Dtu.asg (lk rfl)) rfl ?_
  refine Ops.u (Dtu.asg (lk rfl)) rfl ?_
  refine Ops.nil ?_
  refine Then.next ?_
  refine Body.seq ?_
  refine Body.region ?_
  refine Ops.u (Dtu.mv (lk rfl)) rfl ?_
  refine Ops.u (Dtu.mkfC (lks rfl)) rfl ?_
  refine Ops.s (Stp.callOwn [0] rfl rfl Try.call99 (lks rfl) (fun E' le hat => indexF_ok E' s L t b3 (h.mono le)) ?_) rfl
  rintro _ _ ⟨rfl, rfl⟩
  refine Ops.u (Dtu.asg (lk rfl)) rfl ?_
  refine Ops.nil ?_
  refine Then.next ?_
  refine Body.seq ?_
  refine Body.seq ?_
  refine Body.region ?_
  refine Ops.u (Dtu.mv (lk rfl)) rfl ?_
  refine Ops.u (Dtu.lss (lk rfl) (lk rfl)) rfl ?_
  refine Ops.nil ?_
  refine Then.next ?_
  refine Body.condP (lk rfl) (fun c11 => ?_) (fun c11 => ?_)
  · rw [findP_none (by assumption)]
    refine Body.seq ?_
    refine Body.region ?_
    refine Ops.u (Dtu.asg (lk rfl)) rfl ?_
    refine Ops.u (Dtu.asg (lk rfl)) rfl ?_
    refine Ops.nil ?_
    refine Then.next ?_
    refine Body.ret ?_
    refine Then.ret ?_
    exact ⟨.inr rfl, _, pk [] rfl, rfl, rfl⟩
  · obtain ⟨i, hi⟩ := Int.eq_ofNat_of_zero_le (show 0 ≤ firstAt (fun f : Fld => decide (f.tag = t)) L by omega)
    obtain ⟨hlt, hf⟩ := findP_some hi
    rw [hf, hi]
    have hm : L[i]! ∈ L := by rw [getElem!_pos L i hlt]; exact List.getElem_mem _
    have hx := hd _ hm
    have hy := hl _ hm
    unfold Fld.has at hx
    refine Body.skip ?_
    refine Then.next ?_
    refine Body.seq ?_
    refine Body.region ?_
    refine Ops.u (Dtu.mv (lk rfl)) rfl ?_
    refine Ops.u (Dtu.mv (lk rfl)) rfl ?_
    refine Ops.u (Dtu.ix (i := (i)) Try.underlying134 Try.sizeOf133 (Sl.up h) (lk rfl) (lk rfl) (by omega) (by omega)) rfl ?_
    refine Ops.u (Dtu.fld fa133_1 (lk rfl)) rfl ?_
    refine Ops.d (Det.ld Try.isAgg23 (lk rfl) (Rd.sl2 (Sl.up h) (gfe (sz := 2) (fun _ => rfl) (by omega) rfl))) rfl ?_
    refine Ops.s (Stp.call rfl Try.call38 (lks rfl) (fun E' le hat => cloneB_ok E' _ _ _ (Sl.mono (by assumption) le) (all_u8 _) (by omega)) ?_) rfl
    rintro _ _ ⟨rfl, za17, zm17, zc17, rfl⟩
    refine Ops.u (Dtu.asg (lk rfl)) rfl ?_
    refine Ops.u (Dtu.asg (lk rfl)) rfl ?_
    refine Ops.nil ?_
    refine Then.next ?_
    refine Body.ret ?_
    exact ⟨.inr rfl, _, pk [0] rfl, _, _, _, rfl, rfl⟩
end Go.Proofs.Ytagcpamchgpgiaa
end
section
/- States: Apply, what it computes. -/
namespace Go.Proofs.Ytagcpamchgpgiaa
set_option maxRecDepth 100000
set_option linter.unusedVariables false
set_option linter.unusedSimpArgs false
open Go.Sx

theorem many_has {E : Env} {L : List Fld} (h : At (many (L.map Fld.own)) E) : ∀ f ∈ L, f.has E [] := by
  intro f hf
  obtain ⟨j, hj, rfl⟩ := List.getElem_of_mem hf
  exact Sl.atMany j h (t := 5) (by simp [Fld.own, hj])
def titleP (l : List TF) (a : Stt) : ByteArray := match findP l 2 with
  | none => a.title
  | some d => strOfNums d
def clipP (l : List TF) (a : Stt) : Option (Int × ByteArray) := match findP l 3 with
  | none => some (a.clips, a.clip)
  | some d => if (getS d 0).2.2 ≠ 0 then none else some ((getS d 0).1, strOfNums (d.drop (getS d 0).2.1.toNat))
def bellsP (l : List TF) (a : Stt) : Option Int := match findP l 4 with
  | none => some a.bells
  | some d => if (getS d 0).2.2 ≠ 0 then none else some (getS d 0).1
/-- the state that the parts make, if bytes are its change -/
def sfinP (a : Stt) (v : View) (t : ByteArray) (c : Int × ByteArray) (m : Int) (bs : List Int) : Option Stt :=
  if (Stt.mk v t c.2 c.1 m).ok = true ∧ sdifB a ⟨v, t, c.2, c.1, m⟩ = bs then some ⟨v, t, c.2, c.1, m⟩ else none
def sapplyL (a : Stt) (l : List TF) (bs : List Int) : Option Stt :=
  match findP l 1 with
  | none => none
  | some p => match applyV a.v p with
    | none => none
    | some v => match clipP l a with
      | none => none
      | some c => match bellsP l a with
        | none => none
        | some m => sfinP a v (titleP l a) c m bs
/-- the state to which bytes are a change from a state -/
def sapplyV (a : Stt) (bs : List Int) : Option Stt :=
  match fieldsP bs with
  | .inl _ => none
  | .inr l => if a.ok = true then sapplyL a l bs else none
def Stt.none : Stt := ⟨View.none, ⟨#[]⟩, ⟨#[]⟩, 0, 0⟩
theorem readFs_lens {bs : List Int} {k : Nat} {fs rs : List TF} {a : Nat} (h : readFs bs k fs a = .inr rs) (hf : ∀ f ∈ fs, f.2.length ≤ 16384) : ∀ f ∈ rs, f.2.length ≤ 16384 := by
  induction k generalizing fs a with
  | zero => cases h
  | succ k ih =>
    rw [readFs] at h
    split at h
    · split at h
      · cases h
      · split at h
        · cases h
        · split at h
          · cases h
          · split at h
            · cases h
            · refine ih h fun f hm => ?_
              rcases List.mem_append.1 hm with hm | hm
              · exact hf f hm
              · rw [List.mem_singleton.1 hm]; simp; omega
    · injection h with h; subst h; exact hf
theorem readFs_byt {bs : List Int} (hb : Byt bs) {k : Nat} {fs rs : List TF} {a : Nat} (h : readFs bs k fs a = .inr rs) (hf : ∀ f ∈ fs, Byt f.2) : ∀ f ∈ rs, Byt f.2 := by
  induction k generalizing fs a with
  | zero => cases h
  | succ k ih =>
    rw [readFs] at h
    split at h
    · split at h
      · cases h
      · split at h
        · cases h
        · split at h
          · cases h
          · split at h
            · cases h
            · refine ih h fun f hm => ?_
              rcases List.mem_append.1 hm with hm | hm
              · exact hf f hm
              · rw [List.mem_singleton.1 hm]
                intro i hi
                have hi2 := hi
                simp only [List.length_take, List.length_drop] at hi2
                rw [getElem!_pos _ i hi]
                simp only [List.getElem_take, List.getElem_drop]
                rw [← getElem!_pos bs _ (by omega)]
                exact hb _ (by omega)
    · injection h with h; subst h; exact hf
theorem findP_in {l : List TF} {t : Int} {d : List Int} (h : findP l t = some d) : ∃ f ∈ l, f.2 = d := by
  unfold findP at h
  cases hf : l.find? (fun x => decide (x.1 = t)) with
  | none => rw [hf] at h; cases h
  | some f => rw [hf] at h; injection h with h; exact ⟨f, List.mem_of_find?_eq_some hf, h⟩
theorem readFs_ne {bs : List Int} {k : Nat} {fs : List TF} {a : Nat} {e : Int} (h : readFs bs k fs a = .inl e) (hk : bs.length - a < k) : e ≠ 0 := by
  induction k generalizing fs a with
  | zero => omega
  | succ k ih =>
    rw [readFs] at h
    split at h
    · split at h
      · injection h with h; omega
      · split at h
        · injection h with h; omega
        · rename_i h3
          have g2 := getS_next bs (a + 1) (by omega)
          split at h
          · injection h with h; omega
          · split at h
            · injection h with h; omega
            · exact ih h (by omega)
    · cases h
theorem applyV_fl {a v : View} {bs : List Int} (hb : Byt bs) (hfl : ∀ c ∈ a.cells, c.Fl) (h : applyV a bs = some v) : ∀ c ∈ v.cells, c.Fl := by
  unfold applyV at h
  cases hr : runsP bs with
  | none => rw [hr] at h; cases h
  | some rs =>
    rw [hr] at h
    dsimp only at h
    split at h
    · cases h
    · split at h
      · injection h with h; subst h
        exact applyL_fl rs _ 0 (baseC_fl hfl _ _) (runsP_fine hb hr)
      · cases h
theorem fldB_byt {t : Int} {d : List Int} (ht : 0 ≤ t ∧ t < 256) (hd : BytM d) (hl : d.length ≤ 16384) : BytM (fldB t d) :=
  .append (.cons ht .nil) (.append (putL_byt (by omega) (by omega)) hd)
theorem sdifL_mem {a b : Stt} {x : TF} (h : x ∈ sdifL a b) : x = (1, difB a.v b.v) ∨ x = (2, numsOf b.title) ∨ x = (3, putL b.clips ++ numsOf b.clip) ∨ x = (4, putL b.bells) := by
  simp only [sdifL, List.mem_append] at h
  rcases h with ((h | h) | h) | h
  · exact .inl (List.mem_singleton.1 h)
  · split at h
    · exact .inr (.inl (List.mem_singleton.1 h))
    · cases h
  · split at h
    · exact .inr (.inr (.inl (List.mem_singleton.1 h)))
    · cases h
  · split at h
    · exact .inr (.inr (.inr (List.mem_singleton.1 h)))
    · cases h
theorem difB_most {a b : View} (ka : a.ok = true) (kb : b.ok = true) : (difB a b).length ≤ 8165 := by
  have h1 := (difB_len ka kb).1
  have h2 := difP_len ka kb
  have h3 := (ok_480 kb).2
  have h4 := others_le (difP a b)
  omega
theorem sdifB_byt {a b : Stt} (ka : a.ok = true) (kb : b.ok = true) (hf : ∀ c ∈ b.v.cells, c.Fl) (h0 : 0 ≤ b.clips) (h1 : 0 ≤ b.bells) : Byt (sdifB a b) := by
  obtain ⟨kav, _⟩ := Stt.ok_fits ka
  obtain ⟨kbv, t1, t2, t3, t4⟩ := Stt.ok_fits kb
  have hz1 := sizeS_le b.clips
  have hz2 := sizeS_le b.bells
  have hd := difB_most kav kbv
  refine BytM.byt fun x hx => ?_
  simp only [sdifB, List.mem_flatMap] at hx
  obtain ⟨f, hf2, hx⟩ := hx
  rcases sdifL_mem hf2 with rfl | rfl | rfl | rfl
  · exact fldB_byt (by dsimp only; omega) (difB_byt kbv hf).mem (by omega) x hx
  · exact fldB_byt (by dsimp only; omega) (Byt.mem (numsOf_byt _)) (by rw [numsOf_len]; omega) x hx
  · exact fldB_byt (by dsimp only; omega) (.append (putL_byt h0 (by omega)) (Byt.mem (numsOf_byt _))) (by rw [List.length_append, numsOf_len, putL_len]; omega) x hx
  · exact fldB_byt (by dsimp only; omega) (putL_byt h1 (by omega)) (by rw [putL_len]; omega) x hx
set_option maxHeartbeats 3200000 in
theorem sapply_ok (E : Env) (a : Stt) (s b : Value) (bs : List Int) (ha : a.v.has E [] s) (h : Sl E [] 1 b bs.length (bs.map (.int .u8))) (hb : Byt bs) (hmax : bs.length ≤ 100000) (hfl : ∀ c ∈ a.v.cells, c.Fl) (hc : 0 ≤ a.clips) (hbe : 0 ≤ a.bells) : Does Try.prog 58 #[a.val s, b] E [] fun r H' =>
    match sapplyV a bs with
    | some v => ∃ s, r = .tuple #[v.val s, .int .i64 0] ∧ H' = [osl 127 4 s v.v.cells.length (v.v.cells.flatMap Cell.enc)]
    | none => r = .tuple #[Stt.none.val (.slice none 0 0), .int .i64 3] ∧ H' = [] := by
  have hR := fun (E' : Env) (le : Env.Le E E') => fields_ok E' b bs (Sl.mono h le) hb hmax
  unfold View.has at ha
  refine Does.pure ha.isSl fun hs => ?_
  obtain ⟨sa, sm, sc, rfl⟩ := hs
  refine Does.go (args := [a.val (.slice sa sm sc), b]) _ _ Try.func58 rfl Try.ntmps58 rfl rfl ?_
  unfold sapplyV
  cases hr : fieldsP bs with
  | inl e =>
    rw [hr] at hR
    dsimp only at hR ⊢
    have he : e ≠ 0 := readFs_ne hr (by omega)
    refine Body.seq ?_
    refine Body.region ?_
    refine Ops.s (Stp.box (lk rfl) rfl (fun b2 => ?_)) rfl
    refine Ops.s (Stp.alloc ty62 (fun b4 => ?_)) rfl
    refine Ops.u (Dtu.asg (lk rfl)) rfl ?_
    refine Ops.nil ?_
    refine Then.next ?_
    refine Body.seq ?_
    refine Body.region ?_
    refine Ops.u (Dtu.mv (lk rfl)) rfl ?_
    refine Ops.s (Stp.call rfl Try.call74 (lks rfl) (fun E' le hat => hR E' le) ?_) rfl
    rintro _ _ ⟨rfl, rfl⟩
    refine Ops.u (Dtu.mv (lk rfl)) rfl ?_
    refine Ops.u (Dtu.ext (lk rfl) rfl) rfl ?_
    refine Ops.u (Dtu.ext (lk rfl) rfl) rfl ?_
    refine Ops.u (Dtu.asg (lk rfl)) rfl ?_
    refine Ops.u (Dtu.asg (lk rfl)) rfl ?_
    refine Ops.nil ?_
    refine Then.next ?_
    refine Body.seq ?_
    refine Body.seq ?_
    refine Body.region ?_
    refine Ops.u (Dtu.mv (lk rfl)) rfl ?_
    refine Ops.u (Dtu.neq (lk rfl) (lk rfl)) rfl ?_
    refine Ops.u (Dtu.mv (lk rfl)) rfl ?_
    refine Ops.decP 32 rfl (fun _ => ?_) (fun hn => absurd (by first | omega | assumption | decide) hn)
    refine Ops.gn rfl rfl rfl rfl rfl ?_
    refine Ops.gn rfl rfl rfl rfl rfl ?_
    refine Ops.gn rfl rfl rfl rfl rfl ?_
    refine Ops.u (Dtu.pickT (lk rfl) (lk rfl)) rfl ?_
    refine Ops.nil ?_
    refine Then.next ?_
    refine Body.condT (lk rfl) ?_
    refine Body.seq ?_
    refine Body.region ?_
    refine Ops.u (Dtu.build ty62 pl62 (lkp rfl) rfl rfl) rfl ?_
    refine Ops.e (Stp.store 0 Try.sizeOf62 (lk rfl) (lk rfl) rfl rfl rfl rfl rfl rfl rfl ?_)
    refine Ops.u (Dtu.asg (lk rfl)) rfl ?_
    refine Ops.nil ?_
    refine Then.next ?_
    refine Body.ret ?_
    refine Then.ret ?_
    exact ⟨.inr rfl, _, Loads.agg Try.isAgg62 Try.sizeOf62 (Rds.ow (m := 10) 0 rfl rfl) rfl, _, pk [] rfl, rfl, rfl⟩
  | inr rs =>
    rw [hr] at hR
    dsimp only at hR ⊢
    have hlens := readFs_lens hr (fun _ h => nomatch h)
    have hbyt := readFs_byt hb hr (fun _ h => nomatch h)
    refine Body.seq ?_
    refine Body.region ?_
    refine Ops.s (Stp.box (lk rfl) rfl (fun b2 => ?_)) rfl
    refine Ops.s (Stp.alloc ty62 (fun b4 => ?_)) rfl
    refine Ops.u (Dtu.asg (lk rfl)) rfl ?_
    refine Ops.nil ?_
    refine Then.next ?_
    refine Body.seq ?_
    refine Body.region ?_
    refine Ops.u (Dtu.mv (lk rfl)) rfl ?_
    refine Ops.s (Stp.call rfl Try.call74 (lks rfl) (fun E' le hat => hR E' le) ?_) rfl
    rintro _ _ ⟨l1, l2, l3, L, rfl, rfl, hL⟩
    cases hk : a.ok with
    | false =>
      refine Ops.u (Dtu.mv (lk rfl)) rfl ?_
      refine Ops.u (Dtu.ext (lk rfl) rfl) rfl ?_
      refine Ops.u (Dtu.ext (lk rfl) rfl) rfl ?_
      refine Ops.u (Dtu.asg (lk rfl)) rfl ?_
      refine Ops.u (Dtu.asg (lk rfl)) rfl ?_
      refine Ops.nil ?_
      refine Then.next ?_
      refine Body.seq ?_
      refine Body.seq ?_
      refine Body.region ?_
      refine Ops.u (Dtu.mv (lk rfl)) rfl ?_
      refine Ops.u (Dtu.neq (lk rfl) (lk rfl)) rfl ?_
      refine Ops.u (Dtu.mv (lk rfl)) rfl ?_
      refine Ops.decP 32 rfl (fun hy => absurd hy (by first | omega | assumption | decide)) (fun _ => ?_)
      refine Ops.gd rfl rfl rfl (Det.lda Try.isAgg62 Try.sizeOf62 (lk rfl) (Rds.ow (m := 10) 3 rfl rfl) rfl) rfl ?_
      refine Ops.gs rfl rfl rfl (Stp.call rfl Try.call33 (lks rfl) (fun E' le hat => sright_ok E' ⟨⟨_, _, _, _, _, _⟩, _, _, _, _⟩ _ (Sl.mono (by assumption) le)) ?_) rfl
      rintro _ _ ⟨rfl, rfl⟩
      refine Ops.gu rfl rfl rfl (Dtu.not (lk rfl)) rfl ?_
      refine Ops.u (Dtu.pickF (lk rfl) (lk rfl)) rfl ?_
      refine Ops.nil ?_
      refine Then.next ?_
      refine Body.cond (lk rfl) (fun _ => ?_) (fun hn => absurd hn (by first | (rw [hk]; decide) | simp [hk]))
      refine Body.seq ?_
      refine Body.region ?_
      refine Ops.u (Dtu.build ty62 pl62 (lkp rfl) rfl rfl) rfl ?_
      refine Ops.e (Stp.store 2 Try.sizeOf62 (lk rfl) (lk rfl) rfl rfl rfl rfl rfl rfl rfl ?_)
      refine Ops.u (Dtu.asg (lk rfl)) rfl ?_
      refine Ops.nil ?_
      refine Then.next ?_
      refine Body.ret ?_
      refine Then.ret ?_
      exact ⟨.inr rfl, _, Loads.agg Try.isAgg62 Try.sizeOf62 (Rds.ow (m := 10) 2 rfl rfl) rfl, _, pk [] rfl, rfl, rfl⟩
    | true =>
      have hF : ∀ (t : Int) (E' : Env), At (osl 133 2 (.slice l1 l2 l3) L.length (L.flatMap Fld.enc)) E' → At (many (L.map Fld.own)) E' → Does Try.prog 75 #[.slice l1 l2 l3, .int .u8 t] E' [] fun r H' =>
          match findP rs t with
          | some d => ∃ (x1 : Option Addr) (x2 x3 : Nat), r = .tuple #[.slice x1 x2 x3, .bool true] ∧ H' = [osl 5 1 (.slice x1 x2 x3) d.length (d.map (.int .u8))]
          | none => r = .tuple #[.slice none 0 0, .bool false] ∧ H' = [] := fun t E' h1 h2 => hL ▸ find_ok E' _ L t (Sl.at h1) (many_has h2) (fun f hf => hlens f.tf (hL ▸ List.mem_map_of_mem hf))
      rw [if_pos rfl]
      unfold sapplyL
      have hF1 := hF 1
      cases h1 : findP rs 1 with
      | none =>
        rw [h1] at hF1
        dsimp only at hF1 ⊢
        refine Ops.u (Dtu.mv (lk rfl)) rfl ?_
        refine Ops.u (Dtu.ext (lk rfl) rfl) rfl ?_
        refine Ops.u (Dtu.ext (lk rfl) rfl) rfl ?_
        refine Ops.u (Dtu.asg (lk rfl)) rfl ?_
        refine Ops.u (Dtu.asg (lk rfl)) rfl ?_
        refine Ops.nil ?_
        refine Then.next ?_
        refine Body.seq ?_
        refine Body.seq ?_
        refine Body.region ?_
        refine Ops.u (Dtu.mv (lk rfl)) rfl ?_
        refine Ops.u (Dtu.neq (lk rfl) (lk rfl)) rfl ?_
        refine Ops.u (Dtu.mv (lk rfl)) rfl ?_
        refine Ops.decP 32 rfl (fun hy => absurd hy (by first | omega | assumption | decide)) (fun _ => ?_)
        refine Ops.gd rfl rfl rfl (Det.lda Try.isAgg62 Try.sizeOf62 (lk rfl) (Rds.ow (m := 10) 3 rfl rfl) rfl) rfl ?_
        refine Ops.gs rfl rfl rfl (Stp.call rfl Try.call33 (lks rfl) (fun E' le hat => sright_ok E' ⟨⟨_, _, _, _, _, _⟩, _, _, _, _⟩ _ (Sl.mono (by assumption) le)) ?_) rfl
        rintro _ _ ⟨rfl, rfl⟩
        refine Ops.gu rfl rfl rfl (Dtu.not (lk rfl)) rfl ?_
        refine Ops.u (Dtu.pickF (lk rfl) (lk rfl)) rfl ?_
        refine Ops.nil ?_
        refine Then.next ?_
        refine Body.cond (lk rfl) (fun hn => absurd hn (by first | (rw [hk]; decide) | simp [hk])) (fun _ => ?_)
        refine Body.skip ?_
        refine Then.next ?_
        refine Body.seq ?_
        refine Body.region ?_
        refine Ops.d (Det.lda Try.isAgg62 Try.sizeOf62 (lk rfl) (Rds.ow (m := 10) 3 rfl rfl) rfl) rfl ?_
        refine Ops.s (Stp.alloc ty62 (fun b8 => ?_)) rfl
        refine Ops.e (Stp.store 0 Try.sizeOf62 (lk rfl) (lk rfl) rfl rfl rfl rfl rfl rfl rfl ?_)
        refine Ops.nil ?_
        refine Then.next ?_
        refine Body.seq ?_
        refine Body.region ?_
        refine Ops.u (Dtu.mv (lk rfl)) rfl ?_
        refine Ops.s (Stp.call rfl Try.call75 (lks rfl) (fun E' le hat => hF1 E' (hat _ (by simp)) (hat _ (by simp))) ?_) rfl
        rintro _ _ ⟨rfl, rfl⟩
        refine Ops.u (Dtu.mv (lk rfl)) rfl ?_
        refine Ops.u (Dtu.ext (lk rfl) rfl) rfl ?_
        refine Ops.u (Dtu.ext (lk rfl) rfl) rfl ?_
        refine Ops.u (Dtu.asg (lk rfl)) rfl ?_
        refine Ops.u (Dtu.asg (lk rfl)) rfl ?_
        refine Ops.nil ?_
        refine Then.next ?_
        refine Body.seq ?_
        refine Body.seq ?_
        refine Body.region ?_
        refine Ops.u (Dtu.mv (lk rfl)) rfl ?_
        refine Ops.u (Dtu.not (lk rfl)) rfl ?_
        refine Ops.nil ?_
        refine Then.next ?_
        refine Body.condT (lk rfl) ?_
        refine Body.seq ?_
        refine Body.region ?_
        refine Ops.u (Dtu.build ty62 pl62 (lkp rfl) rfl rfl) rfl ?_
        refine Ops.e (Stp.store 3 Try.sizeOf62 (lk rfl) (lk rfl) rfl rfl rfl rfl rfl rfl rfl ?_)
        refine Ops.u (Dtu.asg (lk rfl)) rfl ?_
        refine Ops.nil ?_
        refine Then.next ?_
        refine Body.ret ?_
        refine Then.ret ?_
        exact ⟨.inr rfl, _, Loads.agg Try.isAgg62 Try.sizeOf62 (Rds.ow (m := 10) 3 rfl rfl) rfl, _, pk [] rfl, rfl, rfl⟩
      | some p =>
        rw [h1] at hF1
        dsimp only at hF1 ⊢
        obtain ⟨f1, f2, f3⟩ := findP_in h1
        have hpl : p.length ≤ 16384 := f3 ▸ hlens _ f2
        have hpb : Byt p := f3 ▸ hbyt _ f2
        have hA := fun (E' : Env) (le : Env.Le E E') (s b : Value) (ha : a.v.has E' [] s) (h : Sl E' [] 1 b p.length (p.map (.int .u8))) => apply_ok E' (View.mk a.v.rows a.v.cols a.v.cells a.v.row a.v.col a.v.vis) s b p ha h hpb (by omega) hfl
        cases h2 : applyV a.v p with
        | none =>
          rw [h2] at hA
          dsimp only at hA ⊢
          refine Ops.u (Dtu.mv (lk rfl)) rfl ?_
          refine Ops.u (Dtu.ext (lk rfl) rfl) rfl ?_
          refine Ops.u (Dtu.ext (lk rfl) rfl) rfl ?_
          refine Ops.u (Dtu.asg (lk rfl)) rfl ?_
          refine Ops.u (Dtu.asg (lk rfl)) rfl ?_
          refine Ops.nil ?_
          refine Then.next ?_
          refine Body.seq ?_
          refine Body.seq ?_
          refine Body.region ?_
          refine Ops.u (Dtu.mv (lk rfl)) rfl ?_
          refine Ops.u (Dtu.neq (lk rfl) (lk rfl)) rfl ?_
          refine Ops.u (Dtu.mv (lk rfl)) rfl ?_
          refine Ops.decP 32 rfl (fun hy => absurd hy (by first | omega | assumption | decide)) (fun _ => ?_)
          refine Ops.gd rfl rfl rfl (Det.lda Try.isAgg62 Try.sizeOf62 (lk rfl) (Rds.ow (m := 10) 3 rfl rfl) rfl) rfl ?_
          refine Ops.gs rfl rfl rfl (Stp.call rfl Try.call33 (lks rfl) (fun E' le hat => sright_ok E' ⟨⟨_, _, _, _, _, _⟩, _, _, _, _⟩ _ (Sl.mono (by assumption) le)) ?_) rfl
          rintro _ _ ⟨rfl, rfl⟩
          refine Ops.gu rfl rfl rfl (Dtu.not (lk rfl)) rfl ?_
          refine Ops.u (Dtu.pickF (lk rfl) (lk rfl)) rfl ?_
          refine Ops.nil ?_
          refine Then.next ?_
          refine Body.cond (lk rfl) (fun hn => absurd hn (by first | (rw [hk]; decide) | simp [hk])) (fun _ => ?_)
          refine Body.skip ?_
          refine Then.next ?_
          refine Body.seq ?_
          refine Body.region ?_
          refine Ops.d (Det.lda Try.isAgg62 Try.sizeOf62 (lk rfl) (Rds.ow (m := 10) 3 rfl rfl) rfl) rfl ?_
          refine Ops.s (Stp.alloc ty62 (fun b8 => ?_)) rfl
          refine Ops.e (Stp.store 0 Try.sizeOf62 (lk rfl) (lk rfl) rfl rfl rfl rfl rfl rfl rfl ?_)
          refine Ops.nil ?_
          refine Then.next ?_
          refine Body.seq ?_
          refine Body.region ?_
          refine Ops.u (Dtu.mv (lk rfl)) rfl ?_
          refine Ops.s (Stp.call rfl Try.call75 (lks rfl) (fun E' le hat => hF1 E' (hat _ (by simp)) (hat _ (by simp))) ?_) rfl
          rintro _ _ ⟨x1, x2, x3, rfl, rfl⟩
          refine Ops.u (Dtu.mv (lk rfl)) rfl ?_
          refine Ops.u (Dtu.ext (lk rfl) rfl) rfl ?_
          refine Ops.u (Dtu.ext (lk rfl) rfl) rfl ?_
          refine Ops.u (Dtu.asg (lk rfl)) rfl ?_
          refine Ops.u (Dtu.asg (lk rfl)) rfl ?_
          refine Ops.nil ?_
          refine Then.next ?_
          refine Body.seq ?_
          refine Body.seq ?_
          refine Body.region ?_
          refine Ops.u (Dtu.mv (lk rfl)) rfl ?_
          refine Ops.u (Dtu.not (lk rfl)) rfl ?_
          refine Ops.nil ?_
          refine Then.next ?_
          refine Body.condF (lk rfl) ?_
          refine Body.skip ?_
          refine Then.next ?_
          refine Body.seq ?_
          refine Body.seq ?_
          refine Body.region ?_
          refine Ops.u (Dtu.fld fa62_0 (lk rfl)) rfl ?_
          refine Ops.d (Det.lda Try.isAgg60 Try.sizeOf60 (lk rfl) (Rds.ow (m := 6) 5 rfl rfl) rfl) rfl ?_
          refine Ops.u (Dtu.mv (lk rfl)) rfl ?_
          refine Ops.s (Stp.call rfl Try.call76 (lks rfl) (fun E' le hat => hA E' le _ _ (Sl.mono ha le) (Sl.at (t := 5) (hat _ (by simp)))) ?_) rfl
          rintro _ _ ⟨rfl, rfl⟩
          refine Ops.u (Dtu.mv (lk rfl)) rfl ?_
          refine Ops.u (Dtu.ext (lk rfl) rfl) rfl ?_
          refine Ops.u (Dtu.ext (lk rfl) rfl) rfl ?_
          refine Ops.u (Dtu.fld fa62_0 (lk rfl)) rfl ?_
          refine Ops.e (Stp.store 1 Try.sizeOf60 (lk rfl) (lk rfl) rfl rfl rfl rfl rfl rfl rfl ?_)
          refine Ops.u (Dtu.asg (lk rfl)) rfl ?_
          refine Ops.nil ?_
          refine Then.next ?_
          refine Body.seq ?_
          refine Body.region ?_
          refine Ops.u (Dtu.mv (lk rfl)) rfl ?_
          refine Ops.u (Dtu.neq (lk rfl) (lk rfl)) rfl ?_
          refine Ops.nil ?_
          refine Then.next ?_
          refine Body.condP (lk rfl) (fun _ => ?_) (fun hn => absurd (by first | omega | assumption | decide) hn)
          refine Body.seq ?_
          refine Body.region ?_
          refine Ops.u (Dtu.build ty62 pl62 (lkp rfl) rfl rfl) rfl ?_
          refine Ops.e (Stp.store 4 Try.sizeOf62 (lk rfl) (lk rfl) rfl rfl rfl rfl rfl rfl rfl ?_)
          refine Ops.u (Dtu.asg (lk rfl)) rfl ?_
          refine Ops.nil ?_
          refine Then.next ?_
          refine Body.ret ?_
          refine Then.ret ?_
          exact ⟨.inr rfl, _, Loads.agg Try.isAgg62 Try.sizeOf62 (Rds.ow (m := 10) 4 rfl rfl) rfl, _, pk [] rfl, rfl, rfl⟩
        | some v =>
          rw [h2] at hA
          dsimp only at hA ⊢
          refine Ops.u (Dtu.mv (lk rfl)) rfl ?_
          refine Ops.u (Dtu.ext (lk rfl) rfl) rfl ?_
          refine Ops.u (Dtu.ext (lk rfl) rfl) rfl ?_
          refine Ops.u (Dtu.asg (lk rfl)) rfl ?_
          refine Ops.u (Dtu.asg (lk rfl)) rfl ?_
          refine Ops.nil ?_
          refine Then.next ?_
          refine Body.seq ?_
          refine Body.seq ?_
          refine Body.region ?_
          refine Ops.u (Dtu.mv (lk rfl)) rfl ?_
          refine Ops.u (Dtu.neq (lk rfl) (lk rfl)) rfl ?_
          refine Ops.u (Dtu.mv (lk rfl)) rfl ?_
          refine Ops.decP 32 rfl (fun hy => absurd hy (by first | omega | assumption | decide)) (fun _ => ?_)
          refine Ops.gd rfl rfl rfl (Det.lda Try.isAgg62 Try.sizeOf62 (lk rfl) (Rds.ow (m := 10) 3 rfl rfl) rfl) rfl ?_
          refine Ops.gs rfl rfl rfl (Stp.call rfl Try.call33 (lks rfl) (fun E' le hat => sright_ok E' ⟨⟨_, _, _, _, _, _⟩, _, _, _, _⟩ _ (Sl.mono (by assumption) le)) ?_) rfl
          rintro _ _ ⟨rfl, rfl⟩
          refine Ops.gu rfl rfl rfl (Dtu.not (lk rfl)) rfl ?_
          refine Ops.u (Dtu.pickF (lk rfl) (lk rfl)) rfl ?_
          refine Ops.nil ?_
          refine Then.next ?_
          refine Body.cond (lk rfl) (fun hn => absurd hn (by first | (rw [hk]; decide) | simp [hk])) (fun _ => ?_)
          refine Body.skip ?_
          refine Then.next ?_
          refine Body.seq ?_
          refine Body.region ?_
          refine Ops.d (Det.lda Try.isAgg62 Try.sizeOf62 (lk rfl) (Rds.ow (m := 10) 3 rfl rfl) rfl) rfl ?_
          refine Ops.s (Stp.alloc ty62 (fun b8 => ?_)) rfl
          refine Ops.e (Stp.store 0 Try.sizeOf62 (lk rfl) (lk rfl) rfl rfl rfl rfl rfl rfl rfl ?_)
          refine Ops.nil ?_
          refine Then.next ?_
          refine Body.seq ?_
          refine Body.region ?_
          refine Ops.u (Dtu.mv (lk rfl)) rfl ?_
          refine Ops.s (Stp.call rfl Try.call75 (lks rfl) (fun E' le hat => hF1 E' (hat _ (by simp)) (hat _ (by simp))) ?_) rfl
          rintro _ _ ⟨x1, x2, x3, rfl, rfl⟩
          refine Ops.u (Dtu.mv (lk rfl)) rfl ?_
          refine Ops.u (Dtu.ext (lk rfl) rfl) rfl ?_
          refine Ops.u (Dtu.ext (lk rfl) rfl) rfl ?_
          refine Ops.u (Dtu.asg (lk rfl)) rfl ?_
          refine Ops.u (Dtu.asg (lk rfl)) rfl ?_
          refine Ops.nil ?_
          refine Then.next ?_
          refine Body.seq ?_
          refine Body.seq ?_
          refine Body.region ?_
          refine Ops.u (Dtu.mv (lk rfl)) rfl ?_
          refine Ops.u (Dtu.not (lk rfl)) rfl ?_
          refine Ops.nil ?_
          refine Then.next ?_
          refine Body.condF (lk rfl) ?_
          refine Body.skip ?_
          refine Then.next ?_
          refine Body.seq ?_
          refine Body.seq ?_
          refine Body.region ?_
          refine Ops.u (Dtu.fld fa62_0 (lk rfl)) rfl ?_
          refine Ops.d (Det.lda Try.isAgg60 Try.sizeOf60 (lk rfl) (Rds.ow (m := 6) 5 rfl rfl) rfl) rfl ?_
          refine Ops.u (Dtu.mv (lk rfl)) rfl ?_
          refine Ops.s (Stp.call rfl Try.call76 (lks rfl) (fun E' le hat => hA E' le _ _ (Sl.mono ha le) (Sl.at (t := 5) (hat _ (by simp)))) ?_) rfl
          rintro _ _ ⟨y0, rfl, rfl⟩
          refine Ops.pure (Sl.isSl (Sl.osl 0 rfl)) fun hy => ?_
          obtain ⟨y1, y2, y3, rfl⟩ := hy
          refine Ops.u (Dtu.mv (lk rfl)) rfl ?_
          refine Ops.u (Dtu.ext (lk rfl) rfl) rfl ?_
          refine Ops.u (Dtu.ext (lk rfl) rfl) rfl ?_
          refine Ops.u (Dtu.fld fa62_0 (lk rfl)) rfl ?_
          refine Ops.e (Stp.store 2 Try.sizeOf60 (lk rfl) (lk rfl) rfl rfl rfl rfl rfl rfl rfl ?_)
          refine Ops.u (Dtu.asg (lk rfl)) rfl ?_
          refine Ops.nil ?_
          refine Then.next ?_
          refine Body.seq ?_
          refine Body.region ?_
          refine Ops.u (Dtu.mv (lk rfl)) rfl ?_
          refine Ops.u (Dtu.neq (lk rfl) (lk rfl)) rfl ?_
          refine Ops.nil ?_
          refine Then.next ?_
          refine Body.condP (lk rfl) (fun hy => absurd hy (by first | omega | assumption | decide)) (fun _ => ?_)
          refine Body.skip ?_
          refine Then.next ?_
          have hF2 := hF 2
          have hF3 := hF 3
          have hF4 := hF 4
          refine Body.seqJ (γ := Unit) rfl (fun _ => []) (fun _ => [osl 127 4 (.slice y1 y2 y3) v.cells.length (v.cells.flatMap Cell.enc), own b8 [.int .i64 v.rows, .int .i64 v.cols, .slice y1 y2 y3, .int .i64 v.row, .int .i64 v.col, .bool v.vis, .string (titleP rs a), .string a.clip, .int .u64 a.clips, .int .u64 a.bells] 62, osl 133 2 (.slice l1 l2 l3) L.length (L.flatMap Fld.enc), many (L.map Fld.own), own b4 [.int .i64 0, .int .i64 0, .slice none 0 0, .int .i64 0, .int .i64 0, .bool false, .string ⟨#[]⟩, .string ⟨#[]⟩, .int .u64 0, .int .u64 0] 62, own b2 (a.cells (.slice sa sm sc)) 62]) (fun _ => True) ?_ ?_
          · generalize hT : titleP rs a = T
            unfold titleP at hT
            cases h3 : findP rs 2 with
            | none =>
              rw [h3] at hF2 hT
              dsimp only at hF2 hT
              subst hT
              refine Body.seq ?_
              refine Body.region ?_
              refine Ops.u (Dtu.mv (lk rfl)) rfl ?_
              refine Ops.s (Stp.call rfl Try.call75 (lks rfl) (fun E' le hat => hF2 E' (hat _ (by simp)) (hat _ (by simp))) ?_) rfl
              rintro _ _ ⟨rfl, rfl⟩
              refine Ops.u (Dtu.mv (lk rfl)) rfl ?_
              refine Ops.u (Dtu.ext (lk rfl) rfl) rfl ?_
              refine Ops.u (Dtu.ext (lk rfl) rfl) rfl ?_
              refine Ops.u (Dtu.asg (lk rfl)) rfl ?_
              refine Ops.u (Dtu.asg (lk rfl)) rfl ?_
              refine Ops.nil ?_
              refine Then.next ?_
              refine Body.seq ?_
              refine Body.region ?_
              refine Ops.u (Dtu.mv (lk rfl)) rfl ?_
              refine Ops.nil ?_
              refine Then.next ?_
              refine Body.condF (lk rfl) ?_
              refine Body.skip ?_
              exact Joint.goK [0, 1, 1, 1, 1, 1] () rfl rfl rfl trivial rfl rfl trivial
            | some d =>
              rw [h3] at hF2 hT
              dsimp only at hF2 hT
              subst hT
              refine Body.seq ?_
              refine Body.region ?_
              refine Ops.u (Dtu.mv (lk rfl)) rfl ?_
              refine Ops.s (Stp.call rfl Try.call75 (lks rfl) (fun E' le hat => hF2 E' (hat _ (by simp)) (hat _ (by simp))) ?_) rfl
              rintro _ _ ⟨w1, w2, w3, rfl, rfl⟩
              refine Ops.u (Dtu.mv (lk rfl)) rfl ?_
              refine Ops.u (Dtu.ext (lk rfl) rfl) rfl ?_
              refine Ops.u (Dtu.ext (lk rfl) rfl) rfl ?_
              refine Ops.u (Dtu.asg (lk rfl)) rfl ?_
              refine Ops.u (Dtu.asg (lk rfl)) rfl ?_
              refine Ops.nil ?_
              refine Then.next ?_
              refine Body.seq ?_
              refine Body.region ?_
              refine Ops.u (Dtu.mv (lk rfl)) rfl ?_
              refine Ops.nil ?_
              refine Then.next ?_
              refine Body.condT (lk rfl) ?_
              refine Body.region ?_
              refine Ops.u (Dtu.mv (lk rfl)) rfl ?_
              refine Ops.d (Det.bstr Try.underlying23 Try.underlying5 Try.underlying9 (lk rfl) (Sl.osl 0 rfl)) rfl ?_
              refine Ops.u (Dtu.fld fa62_1 (lk rfl)) rfl ?_
              refine Ops.e (Stp.store 3 Try.sizeOf9 (lk rfl) (lk rfl) rfl rfl rfl rfl rfl rfl rfl ?_)
              refine Ops.nil ?_
              exact Joint.goK [1, 2, 2, 2, 2, 2] () rfl rfl rfl trivial rfl rfl trivial
          · rintro ⟨⟩ u _
            generalize hT : titleP rs a = T
            refine Body.seqJ (γ := Int × ByteArray) rfl (fun _ => []) (fun g => [osl 127 4 (.slice y1 y2 y3) v.cells.length (v.cells.flatMap Cell.enc), own b8 [.int .i64 v.rows, .int .i64 v.cols, .slice y1 y2 y3, .int .i64 v.row, .int .i64 v.col, .bool v.vis, .string T, .string g.2, .int .u64 g.1, .int .u64 a.bells] 62, osl 133 2 (.slice l1 l2 l3) L.length (L.flatMap Fld.enc), many (L.map Fld.own), own b4 [.int .i64 0, .int .i64 0, .slice none 0 0, .int .i64 0, .int .i64 0, .bool false, .string ⟨#[]⟩, .string ⟨#[]⟩, .int .u64 0, .int .u64 0] 62, own b2 (a.cells (.slice sa sm sc)) 62]) (fun g => clipP rs a = some g ∧ 0 ≤ g.1) ?_ ?_
            · cases h4 : findP rs 3 with
              | none =>
                have hC : clipP rs a = some (a.clips, a.clip) := by unfold clipP; rw [h4]
                rw [h4] at hF3
                dsimp only at hF3
                refine Body.seq ?_
                refine Body.region ?_
                refine Ops.u (Dtu.mv (lk rfl)) rfl ?_
                refine Ops.s (Stp.call rfl Try.call75 (lks rfl) (fun E' le hat => hF3 E' (hat _ (by simp)) (hat _ (by simp))) ?_) rfl
                rintro _ _ ⟨rfl, rfl⟩
                refine Ops.u (Dtu.mv (lk rfl)) rfl ?_
                refine Ops.u (Dtu.ext (lk rfl) rfl) rfl ?_
                refine Ops.u (Dtu.ext (lk rfl) rfl) rfl ?_
                refine Ops.u (Dtu.asg (lk rfl)) rfl ?_
                refine Ops.u (Dtu.asg (lk rfl)) rfl ?_
                refine Ops.nil ?_
                refine Then.next ?_
                refine Body.seq ?_
                refine Body.region ?_
                refine Ops.u (Dtu.mv (lk rfl)) rfl ?_
                refine Ops.nil ?_
                refine Then.next ?_
                refine Body.condF (lk rfl) ?_
                refine Body.skip ?_
                exact Joint.goK [0, 0, 0, 0, 0, 0] (a.clips, a.clip) rfl rfl rfl trivial rfl rfl ⟨hC, hc⟩
              | some d =>
                have hC : clipP rs a = if (getS d 0).2.2 ≠ 0 then none else some ((getS d 0).1, strOfNums (d.drop (getS d 0).2.1.toNat)) := by unfold clipP; rw [h4]
                obtain ⟨f4, f5, f6⟩ := findP_in h4
                have hdl : d.length ≤ 16384 := f6 ▸ hlens _ f5
                have hdb : Byt d := f6 ▸ hbyt _ f5
                have g1 := getS_bound d hdb 0
                have g2 := getS_next d 0
                rw [h4] at hF3
                dsimp only at hF3
                refine Body.seq ?_
                refine Body.region ?_
                refine Ops.u (Dtu.mv (lk rfl)) rfl ?_
                refine Ops.s (Stp.call rfl Try.call75 (lks rfl) (fun E' le hat => hF3 E' (hat _ (by simp)) (hat _ (by simp))) ?_) rfl
                rintro _ _ ⟨w1, w2, w3, rfl, rfl⟩
                refine Ops.u (Dtu.mv (lk rfl)) rfl ?_
                refine Ops.u (Dtu.ext (lk rfl) rfl) rfl ?_
                refine Ops.u (Dtu.ext (lk rfl) rfl) rfl ?_
                refine Ops.u (Dtu.asg (lk rfl)) rfl ?_
                refine Ops.u (Dtu.asg (lk rfl)) rfl ?_
                refine Ops.nil ?_
                refine Then.next ?_
                refine Body.seq ?_
                refine Body.region ?_
                refine Ops.u (Dtu.mv (lk rfl)) rfl ?_
                refine Ops.nil ?_
                refine Then.next ?_
                refine Body.condT (lk rfl) ?_
                refine Body.seq ?_
                refine Body.region ?_
                refine Ops.u (Dtu.mv (lk rfl)) rfl ?_
                refine Ops.s (Stp.call rfl Try.call77 (lks rfl) (fun E' le hat => get_ok E' (.slice w1 w2 w3) d 0 (Sl.at (t := 5) (hat _ (by simp))) hdb) ?_) rfl
                rintro _ _ ⟨rfl, rfl⟩
                refine Ops.u (Dtu.mv (lk rfl)) rfl ?_
                refine Ops.u (Dtu.ext (lk rfl) rfl) rfl ?_
                refine Ops.u (Dtu.ext (lk rfl) rfl) rfl ?_
                refine Ops.u (Dtu.ext (lk rfl) rfl) rfl ?_
                refine Ops.u (Dtu.asg (lk rfl)) rfl ?_
                refine Ops.u (Dtu.asg (lk rfl)) rfl ?_
                refine Ops.u (Dtu.asg (lk rfl)) rfl ?_
                refine Ops.nil ?_
                refine Then.next ?_
                refine Body.seq ?_
                refine Body.seq ?_
                refine Body.region ?_
                refine Ops.u (Dtu.mv (lk rfl)) rfl ?_
                refine Ops.u (Dtu.neq (lk rfl) (lk rfl)) rfl ?_
                refine Ops.nil ?_
                refine Then.next ?_
                refine Body.condP (lk rfl) (fun c80 => ?_) (fun c80 => ?_)
                · rw [if_pos (by assumption)] at hC
                  rw [hC]
                  refine Body.seq ?_
                  refine Body.region ?_
                  refine Ops.u (Dtu.build ty62 pl62 (lkp rfl) rfl rfl) rfl ?_
                  refine Ops.e (Stp.store 5 Try.sizeOf62 (lk rfl) (lk rfl) rfl rfl rfl rfl rfl rfl rfl ?_)
                  refine Ops.u (Dtu.asg (lk rfl)) rfl ?_
                  refine Ops.nil ?_
                  refine Then.next ?_
                  refine Body.ret ?_
                  refine Then.ret ?_
                  refine Joint.ret ?_
                  exact ⟨.inr rfl, _, Loads.agg Try.isAgg62 Try.sizeOf62 (Rds.ow (m := 10) 5 rfl rfl) rfl, _, pk [] rfl, rfl, rfl⟩
                · rw [if_neg (by assumption)] at hC
                  have g3 := g2 (by omega)
                  obtain ⟨q, hq⟩ := Int.eq_ofNat_of_zero_le (show 0 ≤ (getS d 0).2.1 by omega)
                  rw [hq, Int.toNat_natCast] at hC
                  rw [hq]
                  have hql : q ≤ d.length := by omega
                  rw [← List.take_of_length_le (show (d.drop q).length ≤ d.length - q by simp)] at hC
                  refine Body.skip ?_
                  refine Then.next ?_
                  refine Body.drawW mixed ?_
                  refine AW.u 0 rfl (by decide +kernel) (Dtu.mv (lk rfl)) rfl ?_
                  refine AW.u 1 rfl (by decide +kernel) (Dtu.mv (lk rfl)) rfl ?_
                  refine AW.u 2 rfl (by decide +kernel) (Dtu.mv (lk rfl)) rfl ?_
                  refine AW.u 3 rfl (by decide +kernel) (Dtu.slL (q) Try.underlying23 Try.sizeOf5 (Sl.osl 0 rfl) (lk rfl) (lk rfl) (by omega) (by omega)) rfl ?_
                  refine AW.u 5 rfl (by decide +kernel) (Dtu.fld fa62_3 (lk rfl)) rfl ?_
                  refine AW.more [4, 6] (by decide +kernel) rfl ⟨?_, ?_, trivial⟩
                  · refine AWI.d rfl (Det.bstr Try.underlying23 Try.underlying5 Try.underlying9 (lk rfl) (Sl.subM (Sl.osl 0 rfl) _ _ (by omega) (by omega))) rfl ?_
                    refine AW.more [6] (by decide +kernel) rfl ⟨?_, trivial⟩
                    refine AWI.e rfl (Stp.store 2 Try.sizeOf22 (lk rfl) (lk rfl) rfl rfl rfl rfl rfl rfl rfl ?_)
                    refine AW.u 7 rfl (by decide +kernel) (Dtu.fld fa62_2 (lk rfl)) rfl ?_
                    refine AW.more [8] (by decide +kernel) rfl ⟨?_, trivial⟩
                    refine AWI.e rfl (Stp.store 2 Try.sizeOf9 (lk rfl) (lk rfl) rfl rfl rfl rfl rfl rfl rfl ?_)
                    refine AW.done (by decide +kernel) ?_
                    exact Joint.goK [1, 1, 1, 1, 1, 1] ((getS d 0).1, strOfNums ((d.drop q).take (d.length - q))) rfl rfl rfl trivial rfl rfl ⟨hC, g1.1⟩
                  · refine AWI.e rfl (Stp.store 2 Try.sizeOf22 (lk rfl) (lk rfl) rfl rfl rfl rfl rfl rfl rfl ?_)
                    refine AW.more [4] (by decide +kernel) rfl ⟨?_, trivial⟩
                    refine AWI.d rfl (Det.bstr Try.underlying23 Try.underlying5 Try.underlying9 (lk rfl) (Sl.subM (Sl.osl 0 rfl) _ _ (by omega) (by omega))) rfl ?_
                    refine AW.u 7 rfl (by decide +kernel) (Dtu.fld fa62_2 (lk rfl)) rfl ?_
                    refine AW.more [8] (by decide +kernel) rfl ⟨?_, trivial⟩
                    refine AWI.e rfl (Stp.store 2 Try.sizeOf9 (lk rfl) (lk rfl) rfl rfl rfl rfl rfl rfl rfl ?_)
                    refine AW.done (by decide +kernel) ?_
                    exact Joint.goK [1, 1, 1, 1, 1, 1] ((getS d 0).1, strOfNums ((d.drop q).take (d.length - q))) rfl rfl rfl trivial rfl rfl ⟨hC, g1.1⟩
            · rintro ⟨n, c⟩ u2 ⟨hC, hn⟩
              dsimp only at hn ⊢
              rw [hC]
              refine Body.seqJ (γ := Int) rfl (fun _ => []) (fun g => [osl 127 4 (.slice y1 y2 y3) v.cells.length (v.cells.flatMap Cell.enc), own b8 [.int .i64 v.rows, .int .i64 v.cols, .slice y1 y2 y3, .int .i64 v.row, .int .i64 v.col, .bool v.vis, .string T, .string c, .int .u64 n, .int .u64 g] 62, osl 133 2 (.slice l1 l2 l3) L.length (L.flatMap Fld.enc), many (L.map Fld.own), own b4 [.int .i64 0, .int .i64 0, .slice none 0 0, .int .i64 0, .int .i64 0, .bool false, .string ⟨#[]⟩, .string ⟨#[]⟩, .int .u64 0, .int .u64 0] 62, own b2 (a.cells (.slice sa sm sc)) 62]) (fun g => bellsP rs a = some g ∧ 0 ≤ g) ?_ ?_
              · cases h5 : findP rs 4 with
                | none =>
                  have hB : bellsP rs a = some a.bells := by unfold bellsP; rw [h5]
                  rw [h5] at hF4
                  dsimp only at hF4
                  refine Body.seq ?_
                  refine Body.region ?_
                  refine Ops.u (Dtu.mv (lk rfl)) rfl ?_
                  refine Ops.s (Stp.call rfl Try.call75 (lks rfl) (fun E' le hat => hF4 E' (hat _ (by simp)) (hat _ (by simp))) ?_) rfl
                  rintro _ _ ⟨rfl, rfl⟩
                  refine Ops.u (Dtu.mv (lk rfl)) rfl ?_
                  refine Ops.u (Dtu.ext (lk rfl) rfl) rfl ?_
                  refine Ops.u (Dtu.ext (lk rfl) rfl) rfl ?_
                  refine Ops.u (Dtu.asg (lk rfl)) rfl ?_
                  refine Ops.u (Dtu.asg (lk rfl)) rfl ?_
                  refine Ops.nil ?_
                  refine Then.next ?_
                  refine Body.seq ?_
                  refine Body.region ?_
                  refine Ops.u (Dtu.mv (lk rfl)) rfl ?_
                  refine Ops.nil ?_
                  refine Then.next ?_
                  refine Body.condF (lk rfl) ?_
                  refine Body.skip ?_
                  exact Joint.goK [0, 0, 0, 0, 0, 0] a.bells rfl rfl rfl trivial rfl rfl ⟨hB, hbe⟩
                | some d =>
                  have hB : bellsP rs a = if (getS d 0).2.2 ≠ 0 then none else some (getS d 0).1 := by unfold bellsP; rw [h5]
                  obtain ⟨f4, f5, f6⟩ := findP_in h5
                  have hdl : d.length ≤ 16384 := f6 ▸ hlens _ f5
                  have hdb : Byt d := f6 ▸ hbyt _ f5
                  have g1 := getS_bound d hdb 0
                  rw [h5] at hF4
                  dsimp only at hF4
                  refine Body.seq ?_
                  refine Body.region ?_
                  refine Ops.u (Dtu.mv (lk rfl)) rfl ?_
                  refine Ops.s (Stp.call rfl Try.call75 (lks rfl) (fun E' le hat => hF4 E' (hat _ (by simp)) (hat _ (by simp))) ?_) rfl
                  rintro _ _ ⟨w1, w2, w3, rfl, rfl⟩
                  refine Ops.u (Dtu.mv (lk rfl)) rfl ?_
                  refine Ops.u (Dtu.ext (lk rfl) rfl) rfl ?_
                  refine Ops.u (Dtu.ext (lk rfl) rfl) rfl ?_
                  refine Ops.u (Dtu.asg (lk rfl)) rfl ?_
                  refine Ops.u (Dtu.asg (lk rfl)) rfl ?_
                  refine Ops.nil ?_
                  refine Then.next ?_
                  refine Body.seq ?_
                  refine Body.region ?_
                  refine Ops.u (Dtu.mv (lk rfl)) rfl ?_
                  refine Ops.nil ?_
                  refine Then.next ?_
                  refine Body.condT (lk rfl) ?_
                  refine Body.seq ?_
                  refine Body.region ?_
                  refine Ops.u (Dtu.mv (lk rfl)) rfl ?_
                  refine Ops.s (Stp.call rfl Try.call77 (lks rfl) (fun E' le hat => get_ok E' (.slice w1 w2 w3) d 0 (Sl.at (t := 5) (hat _ (by simp))) hdb) ?_) rfl
                  rintro _ _ ⟨rfl, rfl⟩
                  refine Ops.u (Dtu.mv (lk rfl)) rfl ?_
                  refine Ops.u (Dtu.ext (lk rfl) rfl) rfl ?_
                  refine Ops.u (Dtu.ext (lk rfl) rfl) rfl ?_
                  refine Ops.u (Dtu.ext (lk rfl) rfl) rfl ?_
                  refine Ops.u (Dtu.asg (lk rfl)) rfl ?_
                  refine Ops.u (Dtu.asg (lk rfl)) rfl ?_
                  refine Ops.u (Dtu.asg (lk rfl)) rfl ?_
                  refine Ops.nil ?_
                  refine Then.next ?_
                  refine Body.seq ?_
                  refine Body.seq ?_
                  refine Body.region ?_
                  refine Ops.u (Dtu.mv (lk rfl)) rfl ?_
                  refine Ops.u (Dtu.neq (lk rfl) (lk rfl)) rfl ?_
                  refine Ops.nil ?_
                  refine Then.next ?_
                  refine Body.condP (lk rfl) (fun c102 => ?_) (fun c102 => ?_)
                  · rw [if_pos (by assumption)] at hB
                    rw [hB]
                    refine Body.seq ?_
                    refine Body.region ?_
                    refine Ops.u (Dtu.build ty62 pl62 (lkp rfl) rfl rfl) rfl ?_
                    refine Ops.e (Stp.store 5 Try.sizeOf62 (lk rfl) (lk rfl) rfl rfl rfl rfl rfl rfl rfl ?_)
                    refine Ops.u (Dtu.asg (lk rfl)) rfl ?_
                    refine Ops.nil ?_
                    refine Then.next ?_
                    refine Body.ret ?_
                    refine Then.ret ?_
                    refine Joint.ret ?_
                    exact ⟨.inr rfl, _, Loads.agg Try.isAgg62 Try.sizeOf62 (Rds.ow (m := 10) 5 rfl rfl) rfl, _, pk [] rfl, rfl, rfl⟩
                  · rw [if_neg (by assumption)] at hB
                    refine Body.skip ?_
                    refine Then.next ?_
                    refine Body.region ?_
                    refine Ops.u (Dtu.mv (lk rfl)) rfl ?_
                    refine Ops.u (Dtu.fld fa62_4 (lk rfl)) rfl ?_
                    refine Ops.e (Stp.store 2 Try.sizeOf22 (lk rfl) (lk rfl) rfl rfl rfl rfl rfl rfl rfl ?_)
                    refine Ops.nil ?_
                    exact Joint.goK [1, 1, 1, 1, 1, 1] (getS d 0).1 rfl rfl rfl trivial rfl rfl ⟨hB, g1.1⟩
              · rintro m u3 ⟨hB, hm⟩
                dsimp only at hm ⊢
                rw [hB]
                dsimp only
                have hvf := applyV_fl hpb hfl h2
                have hcv : 0 ≤ (Stt.mk v T c n m).clips := hn
                have hmv : 0 ≤ (Stt.mk v T c n m).bells := hm
                unfold sfinP
                cases hkb : (Stt.mk v T c n m).ok with
                | false =>
                  rw [if_neg (by simp)]
                  refine Body.seq ?_
                  refine Body.seq ?_
                  refine Body.region ?_
                  refine Ops.d (Det.lda Try.isAgg62 Try.sizeOf62 (lk rfl) (Rds.ow (m := 10) 5 rfl rfl) rfl) rfl ?_
                  refine Ops.d (Det.lda Try.isAgg62 Try.sizeOf62 (lk rfl) (Rds.ow (m := 10) 1 rfl rfl) rfl) rfl ?_
                  refine Ops.s (Stp.call rfl Try.call55 (lks rfl) (fun E' le hat => sdiff_no E' a ⟨v, T, c, n, m⟩ (.slice sa sm sc) (.slice y1 y2 y3) (Sl.mono ha le) (Sl.at (t := 127) (hat _ (by simp))) (by rw [hkb]; simp)) ?_) rfl
                  rintro _ _ ⟨rfl, rfl⟩
                  refine Ops.u (Dtu.mv (lk rfl)) rfl ?_
                  refine Ops.u (Dtu.ext (lk rfl) rfl) rfl ?_
                  refine Ops.u (Dtu.ext (lk rfl) rfl) rfl ?_
                  refine Ops.u (Dtu.asg (lk rfl)) rfl ?_
                  refine Ops.u (Dtu.asg (lk rfl)) rfl ?_
                  refine Ops.nil ?_
                  refine Then.next ?_
                  refine Body.seq ?_
                  refine Body.region ?_
                  refine Ops.u (Dtu.mv (lk rfl)) rfl ?_
                  refine Ops.u (Dtu.neq (lk rfl) (lk rfl)) rfl ?_
                  refine Ops.u (Dtu.mv (lk rfl)) rfl ?_
                  refine Ops.decP 114 rfl (fun _ => ?_) (fun hn => absurd (by first | omega | assumption | decide) hn)
                  refine Ops.gn rfl rfl rfl rfl rfl ?_
                  refine Ops.gn rfl rfl rfl rfl rfl ?_
                  refine Ops.gn rfl rfl rfl rfl rfl ?_
                  refine Ops.gn rfl rfl rfl rfl rfl ?_
                  refine Ops.u (Dtu.pickT (lk rfl) (lk rfl)) rfl ?_
                  refine Ops.nil ?_
                  refine Then.next ?_
                  refine Body.condT (lk rfl) ?_
                  refine Body.seq ?_
                  refine Body.region ?_
                  refine Ops.u (Dtu.build ty62 pl62 (lkp rfl) rfl rfl) rfl ?_
                  refine Ops.e (Stp.store 4 Try.sizeOf62 (lk rfl) (lk rfl) rfl rfl rfl rfl rfl rfl rfl ?_)
                  refine Ops.u (Dtu.asg (lk rfl)) rfl ?_
                  refine Ops.nil ?_
                  refine Then.next ?_
                  refine Body.ret ?_
                  refine Then.ret ?_
                  exact ⟨.inr rfl, _, Loads.agg Try.isAgg62 Try.sizeOf62 (Rds.ow (m := 10) 4 rfl rfl) rfl, _, pk [] rfl, rfl, rfl⟩
                | true =>
                  have hbt := sdifB_byt (a := a) hk hkb hvf hcv hmv
                  refine Body.seq ?_
                  refine Body.seq ?_
                  refine Body.region ?_
                  refine Ops.d (Det.lda Try.isAgg62 Try.sizeOf62 (lk rfl) (Rds.ow (m := 10) 5 rfl rfl) rfl) rfl ?_
                  refine Ops.d (Det.lda Try.isAgg62 Try.sizeOf62 (lk rfl) (Rds.ow (m := 10) 1 rfl rfl) rfl) rfl ?_
                  refine Ops.s (Stp.call rfl Try.call55 (lks rfl) (fun E' le hat => sdiff_ok E' a ⟨v, T, c, n, m⟩ (.slice sa sm sc) (.slice y1 y2 y3) (Sl.mono ha le) (Sl.at (t := 127) (hat _ (by simp))) hk hkb hcv hmv) ?_) rfl
                  rintro _ _ ⟨s107, rfl, rfl⟩
                  refine Ops.u (Dtu.mv (lk rfl)) rfl ?_
                  refine Ops.u (Dtu.ext (lk rfl) rfl) rfl ?_
                  refine Ops.u (Dtu.ext (lk rfl) rfl) rfl ?_
                  refine Ops.u (Dtu.asg (lk rfl)) rfl ?_
                  refine Ops.u (Dtu.asg (lk rfl)) rfl ?_
                  refine Ops.nil ?_
                  refine Then.next ?_
                  refine Body.seq ?_
                  refine Body.region ?_
                  refine Ops.u (Dtu.mv (lk rfl)) rfl ?_
                  refine Ops.u (Dtu.neq (lk rfl) (lk rfl)) rfl ?_
                  refine Ops.u (Dtu.mv (lk rfl)) rfl ?_
                  refine Ops.decP 114 rfl (fun hy => absurd hy (by first | omega | assumption | decide)) (fun _ => ?_)
                  refine Ops.gu rfl rfl rfl (Dtu.mv (lk rfl)) rfl ?_
                  refine Ops.gu rfl rfl rfl (Dtu.mv (lk rfl)) rfl ?_
                  refine Ops.gs rfl rfl rfl (Stp.call rfl Try.call78 (lks rfl) (fun E' le hat => bytesEqual_ok E' _ _ _ _ (by first | exact Sl.mono (by assumption) le | exact Sl.hatI hat 0 rfl | exact Sl.hatI hat 1 rfl | exact Sl.hatI hat 2 rfl | exact Sl.hatI hat 3 rfl | exact Sl.hatI hat 4 rfl | exact Sl.hatI hat 5 rfl | exact Sl.hatI hat 6 rfl | exact Sl.hatI hat 7 rfl | exact Sl.hatI hat 8 rfl | exact Sl.hatI hat 9 rfl | exact Sl.hatI hat 10 rfl | exact Sl.hatI hat 11 rfl | exact Sl.hatI hat 12 rfl | exact Sl.hatI hat 13 rfl | exact Sl.hatI hat 14 rfl | exact Sl.hatI hat 15 rfl | exact Sl.hatW hat 0 rfl | exact Sl.hatW hat 1 rfl | exact Sl.hatW hat 2 rfl | exact Sl.hatW hat 3 rfl | exact Sl.hatW hat 4 rfl | exact Sl.hatW hat 5 rfl | exact Sl.hatW hat 6 rfl | exact Sl.hatW hat 7 rfl | exact Sl.hatW hat 8 rfl | exact Sl.hatW hat 9 rfl) (by first | exact Sl.mono (by assumption) le | exact Sl.hatI hat 0 rfl | exact Sl.hatI hat 1 rfl | exact Sl.hatI hat 2 rfl | exact Sl.hatI hat 3 rfl | exact Sl.hatI hat 4 rfl | exact Sl.hatI hat 5 rfl | exact Sl.hatI hat 6 rfl | exact Sl.hatI hat 7 rfl | exact Sl.hatI hat 8 rfl | exact Sl.hatI hat 9 rfl | exact Sl.hatI hat 10 rfl | exact Sl.hatI hat 11 rfl | exact Sl.hatI hat 12 rfl | exact Sl.hatI hat 13 rfl | exact Sl.hatI hat 14 rfl | exact Sl.hatI hat 15 rfl | exact Sl.hatW hat 0 rfl | exact Sl.hatW hat 1 rfl | exact Sl.hatW hat 2 rfl | exact Sl.hatW hat 3 rfl | exact Sl.hatW hat 4 rfl | exact Sl.hatW hat 5 rfl | exact Sl.hatW hat 6 rfl | exact Sl.hatW hat 7 rfl | exact Sl.hatW hat 8 rfl | exact Sl.hatW hat 9 rfl) (by assumption) (by assumption)) ?_) rfl
                  rintro _ _ ⟨rfl, rfl⟩
                  refine Ops.gu rfl rfl rfl (Dtu.notP (lk rfl)) rfl ?_
                  refine Ops.u (Dtu.pickF (lk rfl) (lk rfl)) rfl ?_
                  refine Ops.nil ?_
                  refine Then.next ?_
                  refine Body.condP (lk rfl) (fun c119 => ?_) (fun c119 => ?_)
                  · rw [if_neg (fun h => c119 h.2)]
                    refine Body.seq ?_
                    refine Body.region ?_
                    refine Ops.u (Dtu.build ty62 pl62 (lkp rfl) rfl rfl) rfl ?_
                    refine Ops.e (Stp.store 5 Try.sizeOf62 (lk rfl) (lk rfl) rfl rfl rfl rfl rfl rfl rfl ?_)
                    refine Ops.u (Dtu.asg (lk rfl)) rfl ?_
                    refine Ops.nil ?_
                    refine Then.next ?_
                    refine Body.ret ?_
                    refine Then.ret ?_
                    exact ⟨.inr rfl, _, Loads.agg Try.isAgg62 Try.sizeOf62 (Rds.ow (m := 10) 5 rfl rfl) rfl, _, pk [] rfl, rfl, rfl⟩
                  · rw [if_pos ⟨rfl, Decidable.of_not_not c119⟩]
                    refine Body.skip ?_
                    refine Then.next ?_
                    refine Body.seq ?_
                    refine Body.region ?_
                    refine Ops.d (Det.lda Try.isAgg62 Try.sizeOf62 (lk rfl) (Rds.ow (m := 10) 2 rfl rfl) rfl) rfl ?_
                    refine Ops.e (Stp.store 5 Try.sizeOf62 (lk rfl) (lk rfl) rfl rfl rfl rfl rfl rfl rfl ?_)
                    refine Ops.u (Dtu.asg (lk rfl)) rfl ?_
                    refine Ops.nil ?_
                    refine Then.next ?_
                    refine Body.ret ?_
                    exact ⟨.inr rfl, _, Loads.agg Try.isAgg62 Try.sizeOf62 (Rds.ow (m := 10) 5 rfl rfl) rfl, _, pk [1] rfl, .slice y1 y2 y3, rfl, rfl⟩
end Go.Proofs.Ytagcpamchgpgiaa
end
section
/- States: a change's bytes have its fields; a change makes b of a. -/
namespace Go.Proofs.Ytagcpamchgpgiaa
set_option maxRecDepth 100000
set_option linter.unusedVariables false
set_option linter.unusedSimpArgs false
open Go.Sx

theorem ba_ext {a b : ByteArray} (h : a.toList = b.toList) : a = b := by
  rw [ByteArray.toList_eq, ByteArray.toList_eq] at h
  exact ByteArray.ext (Array.toList_inj.mp h)
theorem strOfNums_numsOf (s : ByteArray) : strOfNums (numsOf s) = s := by
  apply ba_ext
  rw [ByteArray.toList_eq, ByteArray.toList_eq]
  simp [strOfNums, numsOf, Function.comp_def]
theorem readFs_flat : ∀ (l : List TF) (k : Nat) (fs : List TF) (pre : List Int), (∀ f ∈ l, f.2.length ≤ 16384) → l.length < k → fs.length + l.length ≤ 128 →
    readFs (pre ++ l.flatMap fun x => fldB x.1 x.2) k fs pre.length = .inr (fs ++ l)
  | [], k, fs, pre, _, hk, _ => by
    obtain ⟨k, rfl⟩ : ∃ k', k = k' + 1 := ⟨k - 1, by simp at hk; omega⟩
    rw [readFs, if_neg (by simp)]
    simp
  | (t, d) :: l, k, fs, pre, hl, hk, hn => by
    obtain ⟨k, rfl⟩ : ∃ k', k = k' + 1 := ⟨k - 1, by simp at hk; omega⟩
    have hd : d.length ≤ 16384 := hl (t, d) (by simp)
    simp only [List.length_cons] at hk hn
    have e0 : (pre ++ ((t, d) :: l).flatMap fun x => fldB x.1 x.2) = (pre ++ [t]) ++ (putL (d.length : Int) ++ (d ++ l.flatMap fun x => fldB x.1 x.2)) := by
      simp [fldB]
    have e1 : getS (pre ++ ((t, d) :: l).flatMap fun x => fldB x.1 x.2) (pre.length + 1) = ((d.length : Int), (pre.length : Int) + 1 + sizeS d.length, 0) := by
      rw [e0]
      have := getS_put (pre ++ [t]) (d ++ l.flatMap fun x => fldB x.1 x.2) (v := (d.length : Int)) (by omega) (by omega)
      simpa using this
    have hz := sizeS_pos (v := (d.length : Int)) (by omega)
    rw [readFs, e1]
    dsimp only
    rw [if_pos (by simp [fldB]), if_neg (by omega), if_neg (by simp), if_neg (by omega), if_neg (by simp [fldB, putL_len]; omega)]
    have e2 : ((pre.length : Int) + 1 + (sizeS (d.length : Int) : Int)).toNat = pre.length + 1 + sizeS (d.length : Int) := by omega
    rw [e2, Int.toNat_natCast]
    have e3 : (pre ++ ((t, d) :: l).flatMap fun x => fldB x.1 x.2)[pre.length]! = t := by
      rw [e0, getElem!_pos _ _ (by simp), List.getElem_append_left (by simp)]; simp
    have e4 : ((pre ++ ((t, d) :: l).flatMap fun x => fldB x.1 x.2).drop (pre.length + 1 + sizeS (d.length : Int))).take d.length = d := by
      rw [e0, ← List.append_assoc, show pre.length + 1 + sizeS (d.length : Int) = ((pre ++ [t]) ++ putL (d.length : Int)).length by simp [putL_len]; omega, List.drop_left, List.take_left]
    rw [e3, e4]
    have e5 : (pre ++ ((t, d) :: l).flatMap fun x => fldB x.1 x.2) = (pre ++ fldB t d) ++ l.flatMap fun x => fldB x.1 x.2 := by simp
    have e6 : pre.length + 1 + sizeS (d.length : Int) + d.length = (pre ++ fldB t d).length := by simp [fldB, putL_len]; omega
    rw [e5, e6, readFs_flat l k (fs ++ [(t, d)]) (pre ++ fldB t d) (fun f hf => hl f (by simp [hf])) (by omega) (by simp; omega)]
    simp
theorem sdifL_short (a b : Stt) : (sdifL a b).length ≤ 4 := by
  simp only [sdifL, List.length_append]
  (repeat' split) <;> simp
theorem sdifL_lens {a b : Stt} (ka : a.ok = true) (kb : b.ok = true) : ∀ f ∈ sdifL a b, f.2.length ≤ 8165 := by
  obtain ⟨kav, _⟩ := Stt.ok_fits ka
  obtain ⟨kbv, t1, t2, t3, t4⟩ := Stt.ok_fits kb
  have hz1 := sizeS_le b.clips
  have hz2 := sizeS_le b.bells
  have hd := difB_most kav kbv
  intro f hf
  rcases sdifL_mem hf with rfl | rfl | rfl | rfl
  · exact hd
  · dsimp only; rw [numsOf_len]; omega
  · dsimp only; rw [List.length_append, numsOf_len, putL_len]; omega
  · dsimp only; rw [putL_len]; omega
theorem flat_ge : ∀ (l : List TF), l.length ≤ (l.flatMap fun x => fldB x.1 x.2).length
  | [] => by simp
  | (t, d) :: l => by 
    have := flat_ge l
    have h1 : 1 ≤ (fldB t d).length := by simp [fldB]
    rw [List.flatMap_cons, List.length_append, List.length_cons]
    dsimp only
    omega
theorem fieldsP_dif {a b : Stt} (ka : a.ok = true) (kb : b.ok = true) : fieldsP (sdifB a b) = .inr (sdifL a b) := by
  have h1 := sdifL_lens ka kb
  have h2 := sdifL_short a b
  have h3 := flat_ge (sdifL a b)
  have := readFs_flat (sdifL a b) ((sdifB a b).length + 1) [] [] (fun f hf => by have := h1 f hf; omega) (Nat.lt_succ_of_le h3) (by simp; omega)
  simpa [fieldsP, sdifB] using this
theorem findP_1 (a b : Stt) : findP (sdifL a b) 1 = some (difB a.v b.v) := by simp [findP, sdifL]
theorem findP_2 (a b : Stt) : findP (sdifL a b) 2 = if a.title.toList ≠ b.title.toList then some (numsOf b.title) else none := by
  unfold findP sdifL
  by_cases h1 : a.title.toList = b.title.toList <;> by_cases h2 : a.clip.toList = b.clip.toList ∧ a.clips = b.clips <;> by_cases h3 : a.bells = b.bells <;> simp [h1, h2, h3]
theorem findP_3 (a b : Stt) : findP (sdifL a b) 3 = if ¬ (a.clip.toList = b.clip.toList ∧ a.clips = b.clips) then some (putL b.clips ++ numsOf b.clip) else none := by
  unfold findP sdifL
  by_cases h1 : a.title.toList = b.title.toList <;> by_cases h2 : a.clip.toList = b.clip.toList ∧ a.clips = b.clips <;> by_cases h3 : a.bells = b.bells <;> simp [h1, h2, h3]
theorem findP_4 (a b : Stt) : findP (sdifL a b) 4 = if a.bells ≠ b.bells then some (putL b.bells) else none := by
  unfold findP sdifL
  by_cases h1 : a.title.toList = b.title.toList <;> by_cases h2 : a.clip.toList = b.clip.toList ∧ a.clips = b.clips <;> by_cases h3 : a.bells = b.bells <;> simp [h1, h2, h3]
theorem getS_0 {v : Int} (r : List Int) (h0 : 0 ≤ v) (h1 : v < 4611686018427387904) : getS (putL v ++ r) 0 = (v, (sizeS v : Int), 0) := by
  have := getS_put [] r h0 h1
  simpa using this
theorem titleP_dif (a b : Stt) : titleP (sdifL a b) a = b.title := by
  unfold titleP
  rw [findP_2]
  by_cases h : a.title.toList = b.title.toList
  · simp only [h, ne_eq, not_true_eq_false, if_false]; exact ba_ext h
  · simp only [ne_eq, h, not_false_eq_true, if_true]; exact strOfNums_numsOf _
theorem clipP_dif {a b : Stt} (h0 : 0 ≤ b.clips) (h1 : b.clips ≤ 4611686018427387903) : clipP (sdifL a b) a = some (b.clips, b.clip) := by
  unfold clipP
  rw [findP_3]
  by_cases h : a.clip.toList = b.clip.toList ∧ a.clips = b.clips
  · rw [if_neg (by simp [h])]; simp only [h.2, ba_ext h.1]
  · rw [if_pos h]
    dsimp only
    rw [getS_0 _ h0 (by omega)]
    simp only [ne_eq, not_true_eq_false, if_false, Int.toNat_natCast]
    rw [← putL_len, List.drop_left, strOfNums_numsOf]
theorem bellsP_dif {a b : Stt} (h0 : 0 ≤ b.bells) (h1 : b.bells ≤ 4611686018427387903) : bellsP (sdifL a b) a = some b.bells := by
  unfold bellsP
  rw [findP_4]
  by_cases h : a.bells = b.bells
  · simp [h]
  · simp only [ne_eq, h, not_false_eq_true, if_true]
    have := getS_0 (v := b.bells) [] h0 (by omega)
    rw [List.append_nil] at this
    rw [this]; simp
theorem sapplyV_dif {a b : Stt} (ka : a.ok = true) (kb : b.ok = true) (h0 : 0 ≤ b.clips) (h1 : 0 ≤ b.bells) : sapplyV a (sdifB a b) = some b := by
  obtain ⟨kav, _⟩ := Stt.ok_fits ka
  obtain ⟨kbv, t1, t2, t3, t4⟩ := Stt.ok_fits kb
  unfold sapplyV
  rw [fieldsP_dif ka kb]
  dsimp only
  rw [if_pos ka]
  unfold sapplyL
  rw [findP_1]
  dsimp only
  rw [applyV_dif kav kbv]
  dsimp only
  rw [clipP_dif h0 t3]
  dsimp only
  rw [bellsP_dif h1 t4]
  dsimp only
  rw [titleP_dif]
  unfold sfinP
  rw [if_pos ⟨kb, rfl⟩]
theorem sdifB_most {a b : Stt} (ka : a.ok = true) (kb : b.ok = true) : (sdifB a b).length ≤ 8700 := by
  obtain ⟨kav, _⟩ := Stt.ok_fits ka
  obtain ⟨kbv, t1, t2, t3, t4⟩ := Stt.ok_fits kb
  have hz1 := sizeS_le b.clips
  have hz2 := sizeS_le b.bells
  have hd := difB_most kav kbv
  have hs := fun v => sizeS_le v
  have z1 := sizeS_le ((difB a.v b.v).length : Int)
  have z2 := sizeS_le ((numsOf b.title).length : Int)
  have z3 := sizeS_le ((putL b.clips ++ numsOf b.clip).length : Int)
  have z4 := sizeS_le ((putL b.bells).length : Int)
  have n1 := numsOf_len b.title
  have n2 := numsOf_len b.clip
  have n3 := putL_len b.clips
  have n4 := putL_len b.bells
  simp only [sdifB, sdifL, List.flatMap_append, List.length_append]
  split <;> split <;> split <;> simp only [List.flatMap_cons, List.flatMap_nil, List.length_append, List.length_nil, List.length_cons, fldB, putL_len, numsOf_len] at * <;> omega
theorem Stt.eqv_iff {a b : Stt} : a.eqv b ↔ a = b := by
  constructor
  · rintro ⟨h1, h2, ⟨h3, h4⟩, h5⟩
    cases a; cases b
    simp only at h1 h2 h3 h4 h5
    rw [h1, ba_ext h2, ba_ext h3, h4, h5]
  · rintro rfl
    exact ⟨rfl, rfl, ⟨rfl, rfl⟩, rfl⟩
end Go.Proofs.Ytagcpamchgpgiaa
end
section
/- States: the fixed calls of longlinelaw22.alive. -/
namespace Go.Proofs.Ytagcpamchgpgiaa
set_option maxRecDepth 100000
set_option linter.unusedVariables false
set_option linter.unusedSimpArgs false
open Go.Sx

theorem sfirst_ok' : Stt.first.ok = true := by decide +kernel
theorem sfirstG_ok (E : Env) : Does Try.prog 23 #[] E [] fun r H' => ∃ (f : Stt) (_ : f = Stt.first) (a : Option Addr) (m c : Nat), r = f.val (.slice a m c) ∧ H' = [osl 127 4 (.slice a m c) f.v.cells.length (f.v.cells.flatMap Cell.enc)] := fun w s => by
  refine ((sfirst_ok E) w s).mono ?_
  rintro e w' ⟨r, H', he, ⟨a, m, c, rfl, rfl⟩, s1⟩
  exact ⟨_, _, he, ⟨Stt.first, rfl, a, m, c, rfl, rfl⟩, s1⟩
end Go.Proofs.Ytagcpamchgpgiaa
end
section
/- States: the law function RegMakes. -/
namespace Go.Proofs.Ytagcpamchgpgiaa
set_option maxRecDepth 100000
set_option linter.unusedVariables false
set_option linter.unusedSimpArgs false
open Go.Sx

structure Stt.Fine (x : Stt) : Prop where
  fl : ∀ c ∈ x.v.cells, c.Fl
  c0 : 0 ≤ x.clips
  b0 : 0 ≤ x.bells
end Go.Proofs.Ytagcpamchgpgiaa
end
section
/- sync: versions; a copy of a state; slices of versions. -/
namespace Go.Proofs.Ytagcpamchgpgiaa
set_option maxRecDepth 100000
set_option maxHeartbeats 4000000
set_option linter.unusedVariables false
set_option linter.unusedSimpArgs false
open Go.Sx

structure Ver where
  n : Nat
  x : Stt
  s : Value
instance : Inhabited Ver := ⟨⟨0, Stt.first, .slice none 0 0⟩⟩
def Ver.enc (v : Ver) : List Value := [.int .u64 (v.n : Nat), .int .i64 v.x.v.rows, .int .i64 v.x.v.cols, v.s, .int .i64 v.x.v.row, .int .i64 v.x.v.col, .bool v.x.v.vis, .string v.x.title, .string v.x.clip, .int .u64 v.x.clips, .int .u64 v.x.bells]
def Ver.has (v : Ver) (E : Env) : Prop := v.x.v.has E [] v.s
theorem Ver.has.mono {v : Ver} {E E' : Env} (h : v.has E) (le : E.Le E') : v.has E' := Sl.mono h le
theorem copied_ok (E : Env) (x : Stt) (s : Value) (hS : x.v.has E [] s) (hb : x.v.cells.length ≤ 1000000) : Does Try.prog 52 #[x.val s] E ([]) fun r H' => ∃ a m c, r = x.val (.slice a m c) ∧ H' = [osl 127 4 (.slice a m c) x.v.cells.length (x.v.cells.flatMap Cell.enc)] := by
  unfold View.has at hS
  refine Does.pure hS.isSl fun hs => ?_
  obtain ⟨sa, sm, sc, rfl⟩ := hs
  refine Does.go _ _ Try.func52 rfl Try.ntmps52 rfl rfl ?_
  refine Body.seq ?_
  refine Body.region ?_
  refine Ops.s (Stp.box (lk rfl) rfl (fun b1 => ?_)) rfl
  refine Ops.s (Stp.alloc ty62 (fun b2 => ?_)) rfl
  refine Ops.nil ?_
  refine Then.next ?_
  refine Body.seq ?_
  refine Body.region ?_
  refine Ops.u (Dtu.fld fa62_0 (lk rfl)) rfl ?_
  refine Ops.u (Dtu.fld fa60_2 (lk rfl)) rfl ?_
  refine Ops.d (Det.ld Try.isAgg58 (lk rfl) (Rd.ow 1 rfl rfl)) rfl ?_
  refine Ops.s (Stp.call rfl Try.call68 (lks rfl) (fun E' le hat => cloneC_ok E' _ _ _ (Sl.mono (by assumption) le) (all_flat enc_one _) (by omega)) ?_) rfl
  rintro _ _ ⟨rfl, za6, zm6, zc6, rfl⟩
  refine Ops.u (Dtu.fld fa62_0 (lk rfl)) rfl ?_
  refine Ops.u (Dtu.fld fa60_2 (lk rfl)) rfl ?_
  refine Ops.e (Stp.store 2 Try.sizeOf58 (lk rfl) (lk rfl) rfl rfl rfl rfl rfl rfl rfl ?_)
  refine Ops.nil ?_
  refine Then.next ?_
  refine Body.seq ?_
  refine Body.region ?_
  refine Ops.d (Det.lda Try.isAgg62 Try.sizeOf62 (lk rfl) (Rds.ow (m := 10) 2 rfl rfl) rfl) rfl ?_
  refine Ops.e (Stp.store 1 Try.sizeOf62 (lk rfl) (lk rfl) rfl rfl rfl rfl rfl rfl rfl ?_)
  refine Ops.nil ?_
  refine Then.next ?_
  refine Body.ret ?_
  exact ⟨.inr rfl, _, Loads.agg Try.isAgg62 Try.sizeOf62 (Rds.ow (m := 10) 1 rfl rfl) rfl, _, pk [0] rfl, _, _, _, rfl, rfl⟩
end Go.Proofs.Ytagcpamchgpgiaa
end
section
/- sync: which versions were sent. -/
namespace Go.Proofs.Ytagcpamchgpgiaa
set_option maxRecDepth 100000
set_option maxHeartbeats 4000000
set_option linter.unusedVariables false
set_option linter.unusedSimpArgs false
open Go.Sx

theorem Sl.capLe {E : Env} {H : List HProp} {sz m : Nat} {v : Value} {vs : List Value} (h : Sl E H sz v m vs) : ∀ w, St E H w → m ≤ capOf v := fun w s => (h w s).cap.1
theorem Sl.takeF {E : Env} {H : List HProp} {α : Type} {enc : α → List Value} {sz k : Nat} {v : Value} {xs : List α} (hle : ∀ x, (enc x).length = sz) (h : Sl E H sz v xs.length (xs.flatMap enc)) (hk : k ≤ xs.length) (hc : xs.length ≤ capOf v) :
    Sl E H sz (subSl v sz 0 k k) (k - 0) ((xs.take k).flatMap enc) := by
  refine Sl.sub h 0 k k (Nat.zero_le _) hk (Nat.le_refl _) (Nat.le_trans hk hc) ?_
  rw [Nat.zero_mul, List.drop_zero, Nat.sub_zero]
  clear h hc hk
  induction xs generalizing k with
  | nil => simp
  | cons x xs ih =>
    cases k with
    | zero => simp
    | succ k =>
      rw [List.flatMap_cons, List.take_append, List.take_of_length_le (by rw [hle, Nat.succ_mul]; omega), List.take_succ_cons, List.flatMap_cons, hle, show (k + 1) * sz - sz = k * sz by rw [Nat.succ_mul]; omega, ih]
theorem flat_take_self {α : Type} {enc : α → List Value} {sz : Nat} (hle : ∀ x, (enc x).length = sz) (xs : List α) {m : Nat} (h : xs.length ≤ m) : (xs.flatMap enc).take (m * sz) = xs.flatMap enc := by
  refine List.take_of_length_le ?_
  have : (xs.flatMap enc).length = xs.length * sz := by
    induction xs with
    | nil => simp
    | cons x xs ih => rw [List.flatMap_cons, List.length_append, ih (by simp at h; omega), hle, List.length_cons, Nat.succ_mul, Nat.add_comm]
  rw [this]; exact Nat.mul_le_mul_right _ h
theorem Sl.dropF {E : Env} {H : List HProp} {α : Type} {enc : α → List Value} {sz k : Nat} {v : Value} {xs : List α} (hle : ∀ x, (enc x).length = sz) (h : Sl E H sz v xs.length (xs.flatMap enc)) (hk : k ≤ xs.length) :
    Sl E H sz (subSl v sz k xs.length (capOf v)) (xs.length - k) ((xs.drop k).flatMap enc) := by
  refine Sl.sub' h k xs.length hk (Nat.le_refl _) ?_
  rw [flat_drop hle, flat_take_self hle _ (by simp)]
/-- slices.Clone at one type -/
theorem cloneV_ok (E : Env) (v : Value) (m : Nat) (vs : List Value) (h : Sl E [] 11 v m vs) (h1 : vs.all (·.oneCell') = true) (hb : m * 120 ≤ 140737488355328) : Does Try.prog 61 #[v] E [] fun r H' => H' = [osl 98 11 r m vs] ∧ IsSl r := by
  refine Does.go (args := [v]) _ _ Try.func61 rfl Try.ntmps61 rfl rfl ?_
  refine Body.seq ?_
  refine Body.region ?_
  refine Ops.u (Dtu.asg (lk rfl)) rfl ?_
  refine Ops.nil ?_
  refine Then.next ?_
  refine Body.seq ?_
  refine Body.seq ?_
  refine Body.region ?_
  refine Ops.u (Dtu.mv (lk rfl)) rfl ?_
  refine Ops.u (Dtu.nilS Try.underlying100 (Sl.up h) (lk rfl)) rfl ?_
  refine Ops.nil ?_
  refine Then.next ?_
  refine Body.cond (lk rfl) (fun c4 => ?_) (fun c4 => ?_)
  · refine Body.pure (h.nil0 c4) ?_
    rintro ⟨rfl, rfl⟩
    refine Body.seq ?_
    refine Body.region ?_
    refine Ops.u (Dtu.asg (lk rfl)) rfl ?_
    refine Ops.nil ?_
    refine Then.next ?_
    refine Body.ret ?_
    refine Then.ret ?_
    exact ⟨.inr rfl, _, fun w s => osl_nil (pk [] rfl w s), rfl, ⟨_, _, _, rfl⟩⟩
  · refine Body.pure h.len ?_
    rintro ⟨hl, hm⟩
    refine Body.skip ?_
    refine Then.next ?_
    refine Body.seq ?_
    refine Body.region ?_
    refine Ops.s (Stp.buildSlice0 Try.underlying100 ty98 (fun b5 => ?_)) rfl
    refine Ops.u (Dtu.mv (lk rfl)) rfl ?_
    refine Ops.s (Stp.appendNew Try.underlying100 ty98 rfl (lk rfl) (lk rfl) h.up h1 hb hm (fun v7 => ?_)) rfl
    refine Ops.pure (Sl.isSl (Sl.osl 0 rfl)) fun hsl => ?_
    refine Ops.u (Dtu.asg (lk rfl)) rfl ?_
    refine Ops.nil ?_
    refine Then.next ?_
    refine Body.ret ?_
    exact ⟨.inr rfl, _, pk [0] rfl, rfl, hsl⟩

theorem ackIs_ok (E : Env) (v : Ver) (n : Int) (b : Nat) : Does Try.prog 60 #[.agg v.enc.toArray, .pointer (some ⟨b, 0, none⟩)] E ([own b [.int .u64 n] 22]) fun r H' => r = .bool (decide ((v.n : Int) = n)) ∧ H' = [own b [.int .u64 n] 22] := by
  refine Does.go _ _ Try.func60 rfl Try.ntmps60 rfl rfl ?_
  refine Body.seq ?_
  refine Body.region ?_
  refine Ops.s (Stp.box (lk rfl) rfl (fun b2 => ?_)) rfl
  refine Ops.u (Dtu.asg (lk rfl)) rfl ?_
  refine Ops.nil ?_
  refine Then.next ?_
  refine Body.seq ?_
  refine Body.region ?_
  refine Ops.u (Dtu.fld fa98_0 (lk rfl)) rfl ?_
  refine Ops.d (Det.ld Try.isAgg22 (lk rfl) (Rd.ow 0 rfl rfl)) rfl ?_
  refine Ops.d (Det.ld Try.isAgg22 (lk rfl) (Rd.ow 1 rfl rfl)) rfl ?_
  refine Ops.u (Dtu.eql (lk rfl) (lk rfl)) rfl ?_
  refine Ops.u (Dtu.asg (lk rfl)) rfl ?_
  refine Ops.nil ?_
  refine Then.next ?_
  refine Body.ret ?_
  exact ⟨.inr rfl, _, pk [1] rfl, rfl, rfl⟩
theorem indexA_ok (E : Env) (s : Value) (L : List Ver) (n : Int) (b : Nat) (hL : Sl E [] 11 s L.length (L.flatMap Ver.enc)) : Does Try.prog 59 #[s, .func (.func 60) #[] #[.pointer (some ⟨b, 0, none⟩)]] E ([own b [.int .u64 n] 22]) fun r H' => r = .int .i64 (firstAt (fun v => decide ((v.n : Int) = n)) L) ∧ H' = [own b [.int .u64 n] 22] := by
  refine Does.pure hL.up.len fun hlen => ?_
  refine Does.go _ _ Try.func59 rfl Try.ntmps59 rfl rfl ?_
  refine Body.seq ?_
  refine Body.region ?_
  refine Ops.u (Dtu.asg (lk rfl)) rfl ?_
  refine Ops.nil ?_
  refine Then.next ?_
  refine Body.seq ?_
  refine Body.seq ?_
  refine Body.region ?_
  refine Ops.u (Dtu.mv (lk rfl)) rfl ?_
  refine Ops.u (Dtu.lenS Try.underlying100 (Sl.up hL) (lk rfl)) rfl ?_
  refine Ops.u (Dtu.mv (lk rfl)) rfl ?_
  refine Ops.nil ?_
  refine Then.next ?_
  refine Body.block ?_
  refine Body.loopH (γ := Nat) rfl (fun k => [(8, .int .i64 k)]) (fun k => []) (fun k => k ≤ L.length ∧ ∀ j, j < k → decide ((L[j]!.n : Int) = n) = false) (fun k => L.length - k) (0) (⟨by omega, fun j hj => by omega⟩) ⟨rfl, trivial⟩ rfl ?_
  rintro k u ⟨hk, hb⟩
  by_cases hlt : k < L.length
  · refine Body.seq ?_
    refine Body.region ?_
    refine Ops.u (Dtu.lss (lk rfl) (lk rfl)) rfl ?_
    refine Ops.nil ?_
    refine Then.next ?_
    refine Body.seq ?_
    refine Body.condP (lk rfl) (fun _ => ?_) (fun hn => absurd (by first | omega | assumption | decide) hn)
    refine Body.skip ?_
    refine Then.next ?_
    refine Body.seq ?_
    refine Body.block ?_
    refine Body.seq ?_
    refine Body.region ?_
    refine Ops.u (Dtu.mv (lk rfl)) rfl ?_
    refine Ops.u (Dtu.asg (lk rfl)) rfl ?_
    refine Ops.nil ?_
    refine Then.next ?_
    refine Body.seq ?_
    refine Body.region ?_
    refine Ops.u (Dtu.mv (lk rfl)) rfl ?_
    refine Ops.u (Dtu.mv (lk rfl)) rfl ?_
    refine Ops.u (Dtu.mv (lk rfl)) rfl ?_
    refine Ops.u (Dtu.ix (i := (k)) Try.underlying100 Try.sizeOf98 (Sl.up hL) (lk rfl) (lk rfl) (by omega) (by omega)) rfl ?_
    refine Ops.d (Det.lda Try.isAgg98 Try.sizeOf98 (lk rfl) (Rds.sl (Sl.up hL) (gf (sz := 11) (fun _ => rfl) (by omega))) rfl) rfl ?_
    refine Ops.s (Stp.callClo [0] rfl (cap := [.pointer (some ⟨b, 0, none⟩)]) (lk rfl) Try.call60 (lks rfl) (fun E' le hat => ackIs_ok E' L[k]! n b) ?_) rfl
    rintro _ _ ⟨rfl, rfl⟩
    by_cases hn : (L[k]!.n : Int) = n
    · have hd := decide_eq_true hn
      rw [hd]
      refine Ops.nil ?_
      refine Then.next ?_
      refine Body.condT (lk rfl) ?_
      refine Body.seq ?_
      refine Body.region ?_
      refine Ops.u (Dtu.mv (lk rfl)) rfl ?_
      refine Ops.u (Dtu.asg (lk rfl)) rfl ?_
      refine Ops.nil ?_
      refine Then.next ?_
      refine Body.ret ?_
      refine Blk.ret ?_
      refine Then.ret ?_
      refine Round.ret ?_
      refine Blk.ret ?_
      refine Then.ret ?_
      exact ⟨.inr rfl, _, pk [0] rfl, by rw [firstAt_some (p := fun v : Ver => decide ((v.n : Int) = n)) hlt (decide_eq_true hn) hb]; rfl, rfl⟩
    · have hd := decide_eq_false hn
      have hb2 : ∀ j, j < k + 1 → decide ((L[j]!.n : Int) = n) = false := fun j hj => by
        by_cases e : j = k
        · subst e; exact decide_eq_false hn
        · exact hb j (by omega)
      rw [hd]
      refine Ops.nil ?_
      refine Then.next ?_
      refine Body.condF (lk rfl) ?_
      refine Body.skip ?_
      refine Blk.norm ?_
      refine Then.next ?_
      refine Body.region ?_
      refine Ops.u (Dtu.add (lk rfl) (lk rfl) (w64 (by omega) (by omega))) rfl ?_
      refine Ops.u (Dtu.mv (lk rfl)) rfl ?_
      refine Ops.nil ?_
      refine Round.goK [0] (k + 1) rfl rfl rfl ⟨int_eq (by omega), trivial⟩ rfl rfl ⟨by omega, hb2⟩ (by omega)
  · refine Body.seq ?_
    refine Body.region ?_
    refine Ops.u (Dtu.lss (lk rfl) (lk rfl)) rfl ?_
    refine Ops.nil ?_
    refine Then.next ?_
    refine Body.seq ?_
    refine Body.condP (lk rfl) (fun hy => absurd hy (by first | omega | assumption | decide)) (fun _ => ?_)
    refine Body.exit ?_
    refine Then.exit ?_
    refine Round.exit ?_
    refine Blk.here ?_
    refine Then.next ?_
    refine Body.seq ?_
    refine Body.region ?_
    refine Ops.u (Dtu.asg (lk rfl)) rfl ?_
    refine Ops.nil ?_
    refine Then.next ?_
    refine Body.ret ?_
    exact ⟨.inr rfl, _, pk [0] rfl, by rw [firstAt_none (p := fun v : Ver => decide ((v.n : Int) = n)) (fun j hj => hb j (by omega))]; rfl, rfl⟩
theorem makeIs_ok (E : Env) (v : Ver) (n : Int) (rest : List Value) (o b : Nat) (hO : At (own o (.bool true :: .int .u64 n :: rest) 102) E) : Does Try.prog 57 #[.agg v.enc.toArray, .pointer (some ⟨b, 0, none⟩)] E ([own b [.pointer (some ⟨o, 0, none⟩)] 54]) fun r H' => r = .bool (decide ((v.n : Int) = n)) ∧ H' = [own b [.pointer (some ⟨o, 0, none⟩)] 54] := by
  refine Does.go _ _ Try.func57 rfl Try.ntmps57 rfl rfl ?_
  refine Body.seq ?_
  refine Body.region ?_
  refine Ops.s (Stp.box (lk rfl) rfl (fun b2 => ?_)) rfl
  refine Ops.u (Dtu.asg (lk rfl)) rfl ?_
  refine Ops.nil ?_
  refine Then.next ?_
  refine Body.seq ?_
  refine Body.draw mixed ?_
  refine AB.u 0 rfl (by decide +kernel) (Dtu.fld fa98_0 (lk rfl)) rfl ?_
  refine AB.d 1 rfl (by decide +kernel) rfl (Det.ld Try.isAgg22 (lk rfl) (Rd.ow 0 rfl rfl)) rfl ?_
  refine AB.d 2 rfl (by decide +kernel) rfl (Det.ld Try.isAgg54 (lk rfl) (Rd.ow 1 rfl rfl)) rfl ?_
  refine AB.u 3 rfl (by decide +kernel) (Dtu.nilck (lk rfl)) rfl ?_
  refine AB.u 4 rfl (by decide +kernel) (Dtu.fld fa102_1 (lk rfl)) rfl ?_
  refine AB.u 5 rfl (by decide +kernel) (Dtu.fld fa98_0 (lk rfl)) rfl ?_
  refine AB.d 6 rfl (by decide +kernel) rfl (Det.ld Try.isAgg22 (lk rfl) (Rd.env (own_at hO rfl))) rfl ?_
  refine AB.u 7 rfl (by decide +kernel) (Dtu.eql (lk rfl) (lk rfl)) rfl ?_
  refine AB.u 8 rfl (by decide +kernel) (Dtu.asg (lk rfl)) rfl ?_
  refine AB.done (by decide +kernel) ?_
  refine Then.next ?_
  refine Body.ret ?_
  exact ⟨.inr rfl, _, pk [1] rfl, rfl, rfl⟩
theorem indexM_ok (E : Env) (s : Value) (L : List Ver) (n : Int) (rest : List Value) (o : Nat) (hO : At (own o (.bool true :: .int .u64 n :: rest) 102) E) (b : Nat) (hL : Sl E [] 11 s L.length (L.flatMap Ver.enc)) : Does Try.prog 59 #[s, .func (.func 57) #[] #[.pointer (some ⟨b, 0, none⟩)]] E ([own b [.pointer (some ⟨o, 0, none⟩)] 54]) fun r H' => r = .int .i64 (firstAt (fun v => decide ((v.n : Int) = n)) L) ∧ H' = [own b [.pointer (some ⟨o, 0, none⟩)] 54] := by
  refine Does.pure hL.up.len fun hlen => ?_
  refine Does.go _ _ Try.func59 rfl Try.ntmps59 rfl rfl ?_
  refine Body.seq ?_
  refine Body.region ?_
  refine Ops.u (Dtu.asg (lk rfl)) rfl ?_
  refine Ops.nil ?_
  refine Then.next ?_
  refine Body.seq ?_
  refine Body.seq ?_
  refine Body.region ?_
  refine Ops.u (Dtu.mv (lk rfl)) rfl ?_
  refine Ops.u (Dtu.lenS Try.underlying100 (Sl.up hL) (lk rfl)) rfl ?_
  refine Ops.u (Dtu.mv (lk rfl)) rfl ?_
  refine Ops.nil ?_
  refine Then.next ?_
  refine Body.block ?_
  refine Body.loopH (γ := Nat) rfl (fun k => [(8, .int .i64 k)]) (fun k => []) (fun k => k ≤ L.length ∧ ∀ j, j < k → decide ((L[j]!.n : Int) = n) = false) (fun k => L.length - k) (0) (⟨by omega, fun j hj => by omega⟩) ⟨rfl, trivial⟩ rfl ?_
  rintro k u ⟨hk, hb⟩
  by_cases hlt : k < L.length
  · refine Body.seq ?_
    refine Body.region ?_
    refine Ops.u (Dtu.lss (lk rfl) (lk rfl)) rfl ?_
    refine Ops.nil ?_
    refine Then.next ?_
    refine Body.seq ?_
    refine Body.condP (lk rfl) (fun _ => ?_) (fun hn => absurd (by first | omega | assumption | decide) hn)
    refine Body.skip ?_
    refine Then.next ?_
    refine Body.seq ?_
    refine Body.block ?_
    refine Body.seq ?_
    refine Body.region ?_
    refine Ops.u (Dtu.mv (lk rfl)) rfl ?_
    refine Ops.u (Dtu.asg (lk rfl)) rfl ?_
    refine Ops.nil ?_
    refine Then.next ?_
    refine Body.seq ?_
    refine Body.region ?_
    refine Ops.u (Dtu.mv (lk rfl)) rfl ?_
    refine Ops.u (Dtu.mv (lk rfl)) rfl ?_
    refine Ops.u (Dtu.mv (lk rfl)) rfl ?_
    refine Ops.u (Dtu.ix (i := (k)) Try.underlying100 Try.sizeOf98 (Sl.up hL) (lk rfl) (lk rfl) (by omega) (by omega)) rfl ?_
    refine Ops.d (Det.lda Try.isAgg98 Try.sizeOf98 (lk rfl) (Rds.sl (Sl.up hL) (gf (sz := 11) (fun _ => rfl) (by omega))) rfl) rfl ?_
    refine Ops.s (Stp.callClo [0] rfl (cap := [.pointer (some ⟨b, 0, none⟩)]) (lk rfl) Try.call57 (lks rfl) (fun E' le hat => makeIs_ok E' L[k]! n rest o b (hO.mono le)) ?_) rfl
    rintro _ _ ⟨rfl, rfl⟩
    by_cases hn : (L[k]!.n : Int) = n
    · have hd := decide_eq_true hn
      rw [hd]
      refine Ops.nil ?_
      refine Then.next ?_
      refine Body.condT (lk rfl) ?_
      refine Body.seq ?_
      refine Body.region ?_
      refine Ops.u (Dtu.mv (lk rfl)) rfl ?_
      refine Ops.u (Dtu.asg (lk rfl)) rfl ?_
      refine Ops.nil ?_
      refine Then.next ?_
      refine Body.ret ?_
      refine Blk.ret ?_
      refine Then.ret ?_
      refine Round.ret ?_
      refine Blk.ret ?_
      refine Then.ret ?_
      exact ⟨.inr rfl, _, pk [0] rfl, by rw [firstAt_some (p := fun v : Ver => decide ((v.n : Int) = n)) hlt (decide_eq_true hn) hb]; rfl, rfl⟩
    · have hd := decide_eq_false hn
      have hb2 : ∀ j, j < k + 1 → decide ((L[j]!.n : Int) = n) = false := fun j hj => by
        by_cases e : j = k
        · subst e; exact decide_eq_false hn
        · exact hb j (by omega)
      rw [hd]
      refine Ops.nil ?_
      refine Then.next ?_
      refine Body.condF (lk rfl) ?_
      refine Body.skip ?_
      refine Blk.norm ?_
      refine Then.next ?_
      refine Body.region ?_
      refine Ops.u (Dtu.add (lk rfl) (lk rfl) (w64 (by omega) (by omega))) rfl ?_
      refine Ops.u (Dtu.mv (lk rfl)) rfl ?_
      refine Ops.nil ?_
      refine Round.goK [0] (k + 1) rfl rfl rfl ⟨int_eq (by omega), trivial⟩ rfl rfl ⟨by omega, hb2⟩ (by omega)
  · refine Body.seq ?_
    refine Body.region ?_
    refine Ops.u (Dtu.lss (lk rfl) (lk rfl)) rfl ?_
    refine Ops.nil ?_
    refine Then.next ?_
    refine Body.seq ?_
    refine Body.condP (lk rfl) (fun hy => absurd hy (by first | omega | assumption | decide)) (fun _ => ?_)
    refine Body.exit ?_
    refine Then.exit ?_
    refine Round.exit ?_
    refine Blk.here ?_
    refine Then.next ?_
    refine Body.seq ?_
    refine Body.region ?_
    refine Ops.u (Dtu.asg (lk rfl)) rfl ?_
    refine Ops.nil ?_
    refine Then.next ?_
    refine Body.ret ?_
    exact ⟨.inr rfl, _, pk [0] rfl, by rw [firstAt_none (p := fun v : Ver => decide ((v.n : Int) = n)) (fun j hj => hb j (by omega))]; rfl, rfl⟩
theorem containsM_ok (E : Env) (s : Value) (L : List Ver) (n : Int) (rest : List Value) (o b : Nat) (hO : At (own o (.bool true :: .int .u64 n :: rest) 102) E) (hL : Sl E [] 11 s L.length (L.flatMap Ver.enc)) : Does Try.prog 56 #[s, .func (.func 57) #[] #[.pointer (some ⟨b, 0, none⟩)]] E ([own b [.pointer (some ⟨o, 0, none⟩)] 54]) fun r H' => r = .bool (decide (0 ≤ firstAt (fun v => decide ((v.n : Int) = n)) L)) ∧ H' = [own b [.pointer (some ⟨o, 0, none⟩)] 54] := by
  refine Does.go _ _ Try.func56 rfl Try.ntmps56 rfl rfl ?_
  refine Body.seq ?_
  refine Body.region ?_
  refine Ops.u (Dtu.asg (lk rfl)) rfl ?_
  refine Ops.nil ?_
  refine Then.next ?_
  refine Body.seq ?_
  refine Body.region ?_
  refine Ops.u (Dtu.mv (lk rfl)) rfl ?_
  refine Ops.u (Dtu.mv (lk rfl)) rfl ?_
  refine Ops.s (Stp.callOwn [0] rfl rfl Try.call59 (lks rfl) (fun E' le hat => indexM_ok E' s L n rest o (hO.mono le) b (Sl.mono hL le)) ?_) rfl
  rintro _ _ ⟨rfl, rfl⟩
  refine Ops.u (Dtu.geq (lk rfl) (lk rfl)) rfl ?_
  refine Ops.u (Dtu.asg (lk rfl)) rfl ?_
  refine Ops.nil ?_
  refine Then.next ?_
  refine Body.ret ?_
  exact ⟨.inr rfl, _, pk [0] rfl, rfl, rfl⟩
end Go.Proofs.Ytagcpamchgpgiaa
end
