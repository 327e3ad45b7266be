/- QNv: SynM, OpenT, SynN, SversP. -/
import Derived.Test.YtagcpamchgpgiaaRva
import Derived.Test.YtagcpamchgpgiaaRvb
import Derived.Test.YtagcpamchgpgiaaRvc
import Derived.Test.YtagcpamchgpgiaaRvd
import Derived.Test.YtagcpamchgpgiaaRve
section
/- SyncComes: the walk. -/
namespace Go.Proofs.Ytagcpamchgpgiaa
set_option maxRecDepth 100000
set_option maxHeartbeats 4000000
set_option linter.unusedVariables false
set_option linter.unusedSimpArgs false
open Go.Sx

structure CG where
  k : Nat
  O : Ot
  I : Ov
  V : List Stt
  way : List Chg
  wv : Value
  L : List HProp
structure CG.Ok (g : CG) : Prop where
  o : OI g.V g.O
  i : g.V[g.I.n]? = some g.I.x
  b : g.O.b.n ≤ g.I.n
  m : g.I.n ≤ g.O.a.n
  a : g.O.a.n ≤ g.k
  w0 : 0 ≤ g.O.whn
  w1 : g.O.whn ≤ 100
  l : g.way.length ≤ g.k
  y : ∀ c ∈ g.way, c.Of g.V g.L ∧ c.n ≤ g.O.a.n
theorem set_more (O : Ot) (x : Stt) : (O.set x).b = O.b ∧ O.a.n ≤ (O.set x).a.n := by
  unfold Ot.set; repeat' split
  all_goals exact ⟨rfl, by first | omega | (dsimp only; omega)⟩
theorem setV_up {V : List Stt} {O : Ot} {x : Stt} (j : Nat) (y : Stt) (h : V[j]? = some y) : (setV V O x)[j]? = some y := by
  unfold setV; repeat' split
  all_goals first | exact h | (rw [List.getElem?_append_left (List.getElem?_eq_some_iff.1 h).1]; exact h)
theorem tmod_nat {a : Int} (h : 0 ≤ a) (m : Nat) : a.tmod (m : Int) = ((a.toNat % m : Nat) : Int) := by
  obtain ⟨n, rfl⟩ := Int.eq_ofNat_of_zero_le h
  rfl
theorem comes29_ok (E : Env) (v : Value) (steps : List SStep) (hv : Sl E [] 15 v steps.length (steps.flatMap SStep.enc)) (hS : ∀ x ∈ steps, x.In E) : Does Try.prog 7 #[v] E ([]) fun r H' => r = .bool true ∧ H' = [] := by
  refine Does.pure hv.len fun hlen => ?_
  refine Does.go _ _ Try.func7 rfl Try.ntmps7 rfl rfl ?_
  refine Body.seq ?_
  refine Body.region ?_
  refine Ops.u (Dtu.asg (lk rfl)) rfl ?_
  refine Ops.nil ?_
  refine Then.next ?_
  refine Body.seq ?_
  refine Body.region ?_
  refine Ops.s (Stp.call rfl Try.call21 (lks rfl) (fun E' le hat => send_s E') ?_) rfl
  rintro _ _ ⟨no24, rfl, rfl⟩
  refine Ops.s (Stp.call rfl Try.call22 (lks rfl) (fun E' le hat => recv_s E') ?_) rfl
  rintro _ _ ⟨ni25, rfl, rfl⟩
  refine Ops.u (Dtu.asg (lk rfl)) rfl ?_
  refine Ops.u (Dtu.asg (lk rfl)) rfl ?_
  refine Ops.nil ?_
  refine Then.next ?_
  refine Body.seq ?_
  refine Body.region ?_
  refine Ops.u (Dtu.asg (lk rfl)) rfl ?_
  refine Ops.nil ?_
  refine Then.next ?_
  refine Body.seq ?_
  refine Body.seq ?_
  refine Body.region ?_
  refine Ops.u (Dtu.asg (lk rfl)) rfl ?_
  refine Ops.nil ?_
  refine Then.next ?_
  refine Body.block ?_
  refine Body.conseq (fun w s => many_nil (osl_nil (t := 73) (sz := 3) (a := none) s)) ?_
  refine Body.loopH (γ := CG) rfl (fun g => [(6, .int .i64 g.k), (5, g.wv)]) (fun g => [(0, many g.L), (1, osl 73 3 g.wv g.way.length (g.way.flatMap Chg.enc)), (2, inP ni25 g.I), (3, outP no24 g.O)]) (fun g => (g.k ≤ steps.length ∧ g.k ≤ 60) ∧ g.Ok) (fun g => 60 - g.k) (⟨0, Ot.new, ⟨0, Stt.first⟩, [Stt.first], [], .slice none 0 0, []⟩) (⟨⟨Nat.zero_le _, Nat.zero_le _⟩, OI.new, rfl, by decide, by decide, by decide, by decide, by decide, by decide, by simp⟩) ⟨rfl, rfl, trivial⟩ rfl ?_
  rintro g u0 ⟨⟨hk1, hk2⟩, ok⟩
  by_cases hlt : g.k < steps.length ∧ g.k < 60
  · have hlt1 := hlt.1
    have hlt2 := hlt.2
    have hin := hS steps[g.k]! (by rw [getElem!_pos steps g.k hlt1]; exact List.getElem_mem _)
    have hone := hin.one
    have ha := ok.a
    have hm : (g.O.a.n : Int) < 4611686018427387903 := by omega
    refine Body.seq ?_
    refine Body.seq ?_
    refine Body.region ?_
    refine Ops.u (Dtu.mv (lk rfl)) rfl ?_
    refine Ops.u (Dtu.mv (lk rfl)) rfl ?_
    refine Ops.u (Dtu.lenS Try.underlying53 (Sl.up hv) (lk rfl)) rfl ?_
    refine Ops.u (Dtu.lss (lk rfl) (lk rfl)) rfl ?_
    refine Ops.u (Dtu.mv (lk rfl)) rfl ?_
    refine Ops.decP 30 rfl (fun _ => ?_) (fun hn => absurd (by first | omega | assumption | decide) hn)
    refine Ops.gu rfl rfl rfl (Dtu.mv (lk rfl)) rfl ?_
    refine Ops.gu rfl rfl rfl (Dtu.lss (lk rfl) (lk rfl)) rfl ?_
    refine Ops.u (Dtu.pickT (lk rfl) (lk rfl)) rfl ?_
    refine Ops.nil ?_
    refine Then.next ?_
    refine Body.condP (lk rfl) (fun _ => ?_) (fun hn => absurd (by first | omega | assumption | decide) hn)
    refine Body.skip ?_
    refine Then.next ?_
    refine Body.seq ?_
    refine Body.block ?_
    refine Body.seq ?_
    refine Body.region ?_
    refine Ops.u (Dtu.mv (lk rfl)) rfl ?_
    refine Ops.u (Dtu.mv (lk rfl)) rfl ?_
    refine Ops.u (Dtu.ix (i := (g.k)) Try.underlying53 Try.sizeOf67 (Sl.up hv) (lk rfl) (lk rfl) (by omega) (by omega)) rfl ?_
    refine Ops.d (Det.lda Try.isAgg67 Try.sizeOf67 (lk rfl) (Rds.sl (Sl.up hv) (gf (sz := 15) (fun _ => rfl) (by omega))) rfl) rfl ?_
    refine Ops.s (Stp.alloc ty67 (fun b7 => ?_)) rfl
    refine Ops.e (Stp.store 0 Try.sizeOf67 (lk rfl) (lk rfl) rfl rfl rfl rfl (by exact all_one (by assumption)) rfl rfl ?_)
    refine Ops.nil ?_
    refine Then.next ?_
    refine Body.seqJH (γ := Ot × List Stt) rfl (fun y => []) (fun y => [(4, outP no24 y.1)]) (fun y => OI y.2 y.1 ∧ (∀ (j : Nat) (x : Stt), g.V[j]? = some x → y.2[j]? = some x) ∧ y.1.b = g.O.b ∧ g.O.a.n ≤ y.1.a.n ∧ y.1.a.n ≤ g.O.a.n + 1 ∧ y.1.whn = g.O.whn) ?_ ?_
    · have hs1 := set_more g.O steps[g.k]!.e.x
      have hs2 := set_n g.O steps[g.k]!.e.x
      have hs3 := ok.o.set hin.e.g
      refine Body.seq ?_
      refine Body.region ?_
      refine Ops.u (Dtu.fld fa67_0 (lk rfl)) rfl ?_
      refine Ops.d (Det.ld Try.isAgg4 (lk rfl) (Rd.ow 0 rfl rfl)) rfl ?_
      refine Ops.nil ?_
      refine Then.next ?_
      refine Body.cond (lk rfl) (fun c41 => ?_) (fun c41 => ?_)
      · refine Body.region ?_
        refine Ops.u (Dtu.mv (lk rfl)) rfl ?_
        refine Ops.u (Dtu.fld fa67_3 (lk rfl)) rfl ?_
        refine Ops.d (Det.lda Try.isAgg62 Try.sizeOf62 (lk rfl) (Rds.ow (m := 10) 0 rfl rfl) rfl) rfl ?_
        refine Ops.s (Stp.callOwn [4] rfl rfl Try.call24 (lks rfl) (fun E' le hat => set_e E' no24 g.O steps[g.k]!.e (hin.e.mono le) hm) ?_) rfl
        rintro _ _ ⟨rfl, rfl⟩
        refine Ops.nil ?_
        refine Joint.goK [1, 1, 1, 1, 0] (g.O.set steps[g.k]!.e.x, setV g.V g.O steps[g.k]!.e.x) rfl rfl rfl trivial rfl rfl ⟨hs3, setV_up, hs1.1, hs1.2, hs2.1, hs2.2⟩
      · refine Body.skip ?_
        refine Joint.goK [0, 0, 0, 0, 0] (g.O, g.V) rfl rfl rfl trivial rfl rfl ⟨ok.o, fun _ _ h => h, rfl, Nat.le_refl _, Nat.le_succ _, rfl⟩
    rintro ⟨O1, V1⟩ u1 ⟨o1, hup, hb1, hn1, hn2, hw⟩
    dsimp only at o1 hup hb1 hn1 hn2 hw ⊢
    have w0 := ok.w0
    have w1 := ok.w1
    have hwa : -1000000 ≤ O1.whn := by omega
    have hwb : O1.whn ≤ 1000000 := by omega
    have g1 := o1.ga
    have g2 := o1.gb.1
    have gl := o1.ll
    refine Body.seq ?_
    refine Body.region ?_
    refine Ops.u (Dtu.mv (lk rfl)) rfl ?_
    refine Ops.u (Dtu.mv (lk rfl)) rfl ?_
    refine Ops.s (Stp.callOwn [4] rfl rfl Try.call32 (lks rfl) (fun E' le hat => due_s E' _ _ _ _ (by first | with_reducible assumption | omega | assumption) (by first | with_reducible assumption | omega | assumption) (by first | with_reducible assumption | omega | assumption) (by first | with_reducible assumption | omega | assumption)) ?_) rfl
    rintro _ _ ⟨rfl, rfl⟩
    refine Ops.u (Dtu.asg (lk rfl)) rfl ?_
    refine Ops.nil ?_
    refine Then.next ?_
    refine Body.seqJH (γ := Ot × List Chg × Value × List HProp) rfl (fun y => [(5, y.2.2.1)]) (fun y => [(0, outP no24 y.1), (2, many y.2.2.2), (3, osl 73 3 y.2.2.1 y.2.1.length (y.2.1.flatMap Chg.enc))]) (fun y => OI V1 y.1 ∧ y.1.b = O1.b ∧ y.1.a = O1.a ∧ 0 ≤ y.1.whn ∧ y.1.whn ≤ 100 ∧ y.2.1.length ≤ g.k + 1 ∧ ∀ c ∈ y.2.1, c.Of V1 y.2.2.2 ∧ c.n ≤ O1.a.n) ?_ ?_
    · have hq := ok.y
      have hq0 := ok.l
      by_cases hs : steps[g.k]!.send = true
      · refine Body.seq ?_
        refine Body.region ?_
        refine Ops.u (Dtu.fld fa67_1 (lk rfl)) rfl ?_
        refine Ops.d (Det.ld Try.isAgg4 (lk rfl) (Rd.ow 1 rfl rfl)) rfl ?_
        refine Ops.nil ?_
        refine Then.next ?_
        refine Body.cond (lk rfl) (fun _ => ?_) (fun hn => absurd hn (by first | (rw [hs]; decide) | simp [hs]))
        refine Body.seq ?_
        refine Body.region ?_
        refine Ops.u (Dtu.mv (lk rfl)) rfl ?_
        refine Ops.u (Dtu.mv (lk rfl)) rfl ?_
        refine Ops.s (Stp.callOwn [0, 1] rfl rfl Try.call27 (lks rfl) (fun E' le hat => make_p E' no24 O1 g.k g.L g1 g2 gl) ?_) rfl
        rintro _ _ ⟨nd54, ne54, ng54, rfl, rfl⟩
        refine Ops.u (Dtu.mv (lk rfl)) rfl ?_
        refine Ops.u (Dtu.ext (lk rfl) rfl) rfl ?_
        refine Ops.u (Dtu.ext (lk rfl) rfl) rfl ?_
        refine Ops.s (Stp.alloc ty73 (fun b9 => ?_)) rfl
        refine Ops.e (Stp.store 0 Try.sizeOf73 (lk rfl) (lk rfl) rfl rfl rfl rfl rfl rfl rfl ?_)
        refine Ops.u (Dtu.asg (lk rfl)) rfl ?_
        refine Ops.nil ?_
        refine Then.next ?_
        have hOI2 := o1.make g.k
        have hc2 := hOI2.ga.len
        have hE1 : (O1.make g.k).a = O1.a := rfl
        have hE2 : (O1.make g.k).b = O1.b := rfl
        have hE3 : (O1.make g.k).whn = g.k := rfl
        have hdue : dueF (O1.make g.k).a.n (O1.make g.k).b.n (O1.make g.k).last (O1.make g.k).whn g.k 1000 = false := by
          rw [show (O1.make g.k).last = O1.a.n from rfl, hE1, hE3]
          unfold dueF lateF
          simp
        have hz1 : (g.way ++ [(⟨O1.b.n, O1.a.n, nd54, ne54, ng54⟩ : Chg)]).length ≤ g.k + 1 := by simp; omega
        have hz2 : ∀ c ∈ g.way ++ [(⟨O1.b.n, O1.a.n, nd54, ne54, ng54⟩ : Chg)], c.Of V1 (osl 5 1 (.slice nd54 ne54 ng54) (sdifB O1.b.x O1.a.x).length ((sdifB O1.b.x O1.a.x).map (.int .u8)) :: g.L) ∧ c.n ≤ O1.a.n := fun c hc => by
          rcases List.mem_append.1 hc with hc | hc
          · exact ⟨(hq c hc).1.mono hup fun A h => .tail _ h, by have := (hq c hc).2; omega⟩
          · rw [List.mem_singleton.1 hc]; exact ⟨⟨_, _, o1.b, o1.a, .head _⟩, Nat.le_refl _⟩
        generalize O1.make g.k = O2 at *
        have hE4 : O2.a.n = O1.a.n := by rw [hE1]
        have hwc : -1000000 ≤ O2.whn := by omega
        have hwd : O2.whn ≤ 1000000 := by omega
        refine Body.seq ?_
        refine Body.region ?_
        refine Ops.u (Dtu.mv (lk rfl)) rfl ?_
        refine Ops.s (Stp.callOwn [1] rfl rfl Try.call25 (lks rfl) (fun E' le hat => now_s E' _ _ (by first | with_reducible assumption | omega | assumption)) ?_) rfl
        rintro _ _ ⟨na59, nb59, nc59, rfl, rfl⟩
        refine Ops.u (Dtu.mv (lk rfl)) rfl ?_
        refine Ops.u (Dtu.ext (lk rfl) rfl) rfl ?_
        refine Ops.u (Dtu.ext (lk rfl) rfl) rfl ?_
        refine Ops.s (Stp.alloc ty62 (fun b12 => ?_)) rfl
        refine Ops.u (Dtu.asg (lk rfl)) rfl ?_
        refine Ops.e (Stp.store 0 Try.sizeOf62 (lk rfl) (lk rfl) rfl rfl rfl rfl rfl rfl rfl ?_)
        refine Ops.nil ?_
        refine Then.next ?_
        refine Body.seq ?_
        refine Body.seq ?_
        refine Body.region ?_
        refine Ops.u (Dtu.mv (lk rfl)) rfl ?_
        refine Ops.u (Dtu.neq (lk rfl) (lk rfl)) rfl ?_
        refine Ops.u (Dtu.mv (lk rfl)) rfl ?_
        refine Ops.decP 64 rfl (fun hy => absurd hy (by first | omega | assumption | decide)) (fun _ => ?_)
        refine Ops.gu rfl rfl rfl (Dtu.mv (lk rfl)) rfl ?_
        refine Ops.gu rfl rfl rfl (Dtu.mv (lk rfl)) rfl ?_
        refine Ops.dec 66 rfl (fun c66 => ?_) (fun c66 => ?_)
        · refine Ops.gu rfl rfl rfl (Dtu.fld fa73_1 (lk rfl)) rfl ?_
          refine Ops.gd rfl rfl rfl (Det.ld Try.isAgg22 (lk rfl) (Rd.ow 3 rfl rfl)) rfl ?_
          refine Ops.gu rfl rfl rfl (Dtu.mv (lk rfl)) rfl ?_
          refine Ops.gu rfl rfl rfl (Dtu.neq (lk rfl) (lk rfl)) rfl ?_
          refine Ops.gu rfl rfl rfl (Dtu.pickT (lk rfl) (lk rfl)) rfl ?_
          refine Ops.u (Dtu.pickF (lk rfl) (lk rfl)) rfl ?_
          refine Ops.u (Dtu.mv (lk rfl)) rfl ?_
          refine Ops.decP 73 rfl (fun hy => absurd hy (by first | omega | assumption | decide)) (fun _ => ?_)
          refine Ops.gu rfl rfl rfl (Dtu.mv (lk rfl)) rfl ?_
          refine Ops.gu rfl rfl rfl (Dtu.mv (lk rfl)) rfl ?_
          refine Ops.gs rfl rfl rfl (Stp.callOwn [1] rfl rfl Try.call32 (lks rfl) (fun E' le hat => due_s E' _ _ _ _ (by first | with_reducible assumption | omega | assumption) (by first | with_reducible assumption | omega | assumption) (by first | with_reducible assumption | omega | assumption) (by first | with_reducible assumption | omega | assumption)) ?_) rfl
          rintro _ _ ⟨rfl, rfl⟩
          refine Ops.u (Dtu.pickF (lk rfl) (lk rfl)) rfl ?_
          refine Ops.nil ?_
          refine Then.next ?_
          refine Body.cond (lk rfl) (fun hn => absurd hn (by first | (rw [hdue]; decide) | simp [hdue])) (fun _ => ?_)
          refine Body.skip ?_
          refine Then.next ?_
          refine Body.region ?_
          refine Ops.u (Dtu.mv (lk rfl)) rfl ?_
          refine Ops.d (Det.lda Try.isAgg73 Try.sizeOf73 (lk rfl) (Rds.ow (m := 3) 3 rfl rfl) rfl) rfl ?_
          refine Ops.s (Stp.buildSliceO Try.underlying65 ty73 (by decide) (by decide) (lkp rfl) rfl rfl rfl (by decide) (fun v80 => ?_)) rfl
          refine Ops.s (Stp.append 7 Try.underlying65 ty73 rfl rfl (lk rfl) (lk rfl) (Sl.osl 0 rfl) (by first | rfl | exact all_map (fun _ => rfl) _ | exact all_flat (fun _ => rfl) _) (by omega) (by omega) (fun v81 => ?_)) rfl
          refine Ops.u (Dtu.asg (lk rfl)) rfl ?_
          refine Ops.nil ?_
          refine Joint.goK [1, 5, 4, 4, 4] (O2, g.way ++ [⟨O1.b.n, O1.a.n, nd54, ne54, ng54⟩], v81, osl 5 1 (.slice nd54 ne54 ng54) (sdifB O1.b.x O1.a.x).length ((sdifB O1.b.x O1.a.x).map (.int .u8)) :: g.L) rfl rfl rfl ⟨rfl, trivial⟩ rfl (by (try dsimp only); rw [List.length_append, List.flatMap_append]; rfl) ⟨hOI2, hE2, hE1, by dsimp only; omega, by dsimp only; omega, hz1, hz2⟩
        · refine Ops.gn rfl rfl rfl rfl rfl ?_
          refine Ops.gn rfl rfl rfl rfl rfl ?_
          refine Ops.gn rfl rfl rfl rfl rfl ?_
          refine Ops.gn rfl rfl rfl rfl rfl ?_
          refine Ops.gu rfl rfl rfl (Dtu.pickF (lk rfl) (lk rfl)) rfl ?_
          refine Ops.u (Dtu.pickF (lk rfl) (lk rfl)) rfl ?_
          refine Ops.u (Dtu.mv (lk rfl)) rfl ?_
          refine Ops.gu rfl rfl rfl (Dtu.mv (lk rfl)) rfl ?_
          refine Ops.gu rfl rfl rfl (Dtu.mv (lk rfl)) rfl ?_
          refine Ops.gs rfl rfl rfl (Stp.callOwn [1] rfl rfl Try.call32 (lks rfl) (fun E' le hat => due_s E' _ _ _ _ (by first | with_reducible assumption | omega | assumption) (by first | with_reducible assumption | omega | assumption) (by first | with_reducible assumption | omega | assumption) (by first | with_reducible assumption | omega | assumption)) ?_) rfl
          rintro _ _ ⟨rfl, rfl⟩
          refine Ops.u (Dtu.pickF (lk rfl) (lk rfl)) rfl ?_
          refine Ops.nil ?_
          refine Then.next ?_
          refine Body.cond (lk rfl) (fun hn => absurd hn (by first | (rw [hdue]; decide) | simp [hdue])) (fun _ => ?_)
          refine Body.skip ?_
          refine Then.next ?_
          refine Body.region ?_
          refine Ops.u (Dtu.mv (lk rfl)) rfl ?_
          refine Ops.d (Det.lda Try.isAgg73 Try.sizeOf73 (lk rfl) (Rds.ow (m := 3) 3 rfl rfl) rfl) rfl ?_
          refine Ops.s (Stp.buildSliceO Try.underlying65 ty73 (by decide) (by decide) (lkp rfl) rfl rfl rfl (by decide) (fun v80 => ?_)) rfl
          refine Ops.s (Stp.append 7 Try.underlying65 ty73 rfl rfl (lk rfl) (lk rfl) (Sl.osl 0 rfl) (by first | rfl | exact all_map (fun _ => rfl) _ | exact all_flat (fun _ => rfl) _) (by omega) (by omega) (fun v81 => ?_)) rfl
          refine Ops.u (Dtu.asg (lk rfl)) rfl ?_
          refine Ops.nil ?_
          refine Joint.goK [1, 5, 4, 4, 4] (O2, g.way ++ [⟨O1.b.n, O1.a.n, nd54, ne54, ng54⟩], v81, osl 5 1 (.slice nd54 ne54 ng54) (sdifB O1.b.x O1.a.x).length ((sdifB O1.b.x O1.a.x).map (.int .u8)) :: g.L) rfl rfl rfl ⟨rfl, trivial⟩ rfl (by (try dsimp only); rw [List.length_append, List.flatMap_append]; rfl) ⟨hOI2, hE2, hE1, by dsimp only; omega, by dsimp only; omega, hz1, hz2⟩
      · have hs : steps[g.k]!.send = false := by simpa using hs
        refine Body.seq ?_
        refine Body.region ?_
        refine Ops.u (Dtu.fld fa67_1 (lk rfl)) rfl ?_
        refine Ops.d (Det.ld Try.isAgg4 (lk rfl) (Rd.ow 1 rfl rfl)) rfl ?_
        refine Ops.nil ?_
        refine Then.next ?_
        refine Body.cond (lk rfl) (fun hn => absurd hn (by first | (rw [hs]; decide) | simp [hs])) (fun _ => ?_)
        refine Body.skip ?_
        refine Joint.goK [0, 0, 0, 0, 0] (O1, g.way, g.wv, g.L) rfl rfl rfl ⟨rfl, trivial⟩ rfl rfl ⟨o1, rfl, rfl, by dsimp only; omega, by dsimp only; omega, Nat.le_succ_of_le hq0, fun c hc => ⟨(hq c hc).1.mono hup fun A h => h, by have := (hq c hc).2; omega⟩⟩
    rintro ⟨O2, way2, wv2, L2⟩ u2 ⟨o2, hb2, ha2, w2, w3, hy1, hy2⟩
    dsimp only at o2 hb2 ha2 w2 w3 hy1 hy2 ⊢
    have hI2 := hup _ _ ok.i
    have hOb := ok.b
    have hOm := ok.m
    skip
    refine Body.seqJH (γ := Ov) rfl (fun y => []) (fun y => [(4, inP ni25 y)]) (fun y => V1[y.n]? = some y.x ∧ g.I.n ≤ y.n ∧ y.n ≤ O2.a.n) ?_ ?_
    · by_cases hw0 : 0 < way2.length
      · have c0 := hin.c0
        have c1 := hin.c1
        have hrem := tmod_nat hin.c0 way2.length
        have hjx := Nat.mod_lt steps[g.k]!.comes.toNat hw0
        generalize steps[g.k]!.comes.toNat % way2.length = jx at *
        have hmx : way2[jx]! ∈ way2 := by rw [getElem!_pos way2 jx hjx]; exact List.getElem_mem _
        have hcx := (hy2 _ hmx).1
        have hcn := (hy2 _ hmx).2
        have hti := takeI_in hI2 hcx
        have htm : (takeI V1 g.I way2[jx]!).n ≤ O2.a.n := by
          rw [ha2]
          unfold takeI
          repeat' split
          all_goals first | omega | (dsimp only; omega)
        refine Body.seq ?_
        refine Body.region ?_
        refine Ops.u (Dtu.mv (lk rfl)) rfl ?_
        refine Ops.u (Dtu.lenS Try.underlying65 (Sl.osl 3 rfl) (lk rfl)) rfl ?_
        refine Ops.u (Dtu.gtr (lk rfl) (lk rfl)) rfl ?_
        refine Ops.u (Dtu.mv (lk rfl)) rfl ?_
        refine Ops.decP 85 rfl (fun _ => ?_) (fun hn => absurd (by first | omega | assumption | decide) hn)
        refine Ops.gu rfl rfl rfl (Dtu.fld fa67_2 (lk rfl)) rfl ?_
        refine Ops.gd rfl rfl rfl (Det.ld Try.isAgg4 (lk rfl) (Rd.ow 1 rfl rfl)) rfl ?_
        refine Ops.u (Dtu.pickT (lk rfl) (lk rfl)) rfl ?_
        refine Ops.nil ?_
        refine Then.next ?_
        refine Body.cond (lk rfl) (fun c88 => ?_) (fun c88 => ?_)
        · refine Body.region ?_
          refine Ops.u (Dtu.mv (lk rfl)) rfl ?_
          refine Ops.u (Dtu.mv (lk rfl)) rfl ?_
          refine Ops.u (Dtu.fld fa67_4 (lk rfl)) rfl ?_
          refine Ops.d (Det.ld Try.isAgg5 (lk rfl) (Rd.ow 1 rfl rfl)) rfl ?_
          refine Ops.u (Dtu.cvt Try.underlying5 Try.underlying3 (lk rfl) (w64 (by omega) (by omega))) rfl ?_
          refine Ops.u (Dtu.mv (lk rfl)) rfl ?_
          refine Ops.u (Dtu.lenS Try.underlying65 (Sl.osl 3 rfl) (lk rfl)) rfl ?_
          refine Ops.u (Dtu.rem (lk rfl) (lk rfl) (by first | decide | omega) (by with_reducible assumption)) rfl ?_
          refine Ops.u (Dtu.ix (i := (jx)) Try.underlying65 Try.sizeOf73 (Sl.osl 3 rfl) (lk rfl) (lk rfl) (by omega) (by omega)) rfl ?_
          refine Ops.d (Det.lda Try.isAgg73 Try.sizeOf73 (lk rfl) (Rds.sl (Sl.osl 3 rfl) (gf (sz := 3) (fun _ => rfl) (by omega))) rfl) rfl ?_
          refine Ops.s (Stp.callOwn [4, 2] rfl rfl Try.call28 (lks rfl) (fun E' le hat => take_p E' ni25 g.I way2[jx]! V1 L2 o2.vv hI2 hcx) ?_) rfl
          rintro _ _ ⟨rfl, rfl⟩
          refine Ops.nil ?_
          refine Joint.goK [2, 2, 1, 1, 0] (takeI V1 g.I way2[jx]!) rfl rfl rfl trivial rfl rfl ⟨hti.1, hti.2, htm⟩
        · refine Body.skip ?_
          refine Joint.goK [0, 0, 0, 0, 0] g.I rfl rfl rfl trivial rfl rfl ⟨hI2, Nat.le_refl _, by rw [ha2]; omega⟩
      · refine Body.seq ?_
        refine Body.region ?_
        refine Ops.u (Dtu.mv (lk rfl)) rfl ?_
        refine Ops.u (Dtu.lenS Try.underlying65 (Sl.osl 3 rfl) (lk rfl)) rfl ?_
        refine Ops.u (Dtu.gtr (lk rfl) (lk rfl)) rfl ?_
        refine Ops.u (Dtu.mv (lk rfl)) rfl ?_
        refine Ops.decP 85 rfl (fun hy => absurd hy (by first | omega | assumption | decide)) (fun _ => ?_)
        refine Ops.gn rfl rfl rfl rfl rfl ?_
        refine Ops.gn rfl rfl rfl rfl rfl ?_
        refine Ops.u (Dtu.pickF (lk rfl) (lk rfl)) rfl ?_
        refine Ops.nil ?_
        refine Then.next ?_
        refine Body.condF (lk rfl) ?_
        refine Body.skip ?_
        refine Joint.goK [0, 0, 0, 0, 0] g.I rfl rfl rfl trivial rfl rfl ⟨hI2, Nat.le_refl _, by rw [ha2]; omega⟩
    rintro I2 u3 ⟨hi1, hi2, hi3⟩
    have gl2 := o2.ll
    have hIc : I2.x.v.cells.length ≤ 1000 := (o2.g _ (List.mem_of_getElem? hi1)).len
    have hAn : O2.a.n = O1.a.n := by rw [ha2]
    have hBn : O2.b.n = g.O.b.n := by rw [hb2, hb1]
    obtain ⟨v1, v2, v3⟩ := ack_w O2 I2.n
    have hoA := o2.ack I2.n
    have hB3 : (O2.ack I2.n).b.n ≤ I2.n := by
      unfold Ot.ack
      rw [if_neg (by omega), if_neg (by omega)]
      by_cases h : I2.n = O2.b.n
      · rw [if_pos h]; omega
      · rw [if_neg h]
        cases hix : O2.idx I2.n with
        | none => exact Nat.zero_le _
        | some j => exact Nat.le_of_eq (idx_some hix).2.2
    have hA3 : (O2.ack I2.n).a.n = O1.a.n := by rw [v2, ha2]
    refine Body.seq ?_
    refine Body.region ?_
    refine Ops.u (Dtu.fld fa67_5 (lk rfl)) rfl ?_
    refine Ops.d (Det.ld Try.isAgg5 (lk rfl) (Rd.ow 1 rfl rfl)) rfl ?_
    refine Ops.u (Dtu.bit rfl (lk rfl) (lk rfl) rfl) rfl ?_
    refine Ops.u (Dtu.eql (lk rfl) (lk rfl)) rfl ?_
    refine Ops.nil ?_
    refine Then.next ?_
    refine Body.condP (lk rfl) (fun c103 => ?_) (fun c103 => ?_)
    · refine Body.seq ?_
      refine Body.region ?_
      refine Ops.u (Dtu.mv (lk rfl)) rfl ?_
      refine Ops.s (Stp.callOwn [4] rfl rfl Try.call29 (lks rfl) (fun E' le hat => inow_s E' _ _ (by first | with_reducible assumption | omega | assumption)) ?_) rfl
      rintro _ _ ⟨na106, nb106, nc106, rfl, rfl⟩
      refine Ops.u (Dtu.mv (lk rfl)) rfl ?_
      refine Ops.u (Dtu.ext (lk rfl) rfl) rfl ?_
      refine Ops.u (Dtu.ext (lk rfl) rfl) rfl ?_
      refine Ops.s (Stp.alloc ty62 (fun b14 => ?_)) rfl
      refine Ops.u (Dtu.asg (lk rfl)) rfl ?_
      refine Ops.e (Stp.store 0 Try.sizeOf62 (lk rfl) (lk rfl) rfl rfl rfl rfl rfl rfl rfl ?_)
      refine Ops.nil ?_
      refine Then.next ?_
      refine Body.region ?_
      refine Ops.u (Dtu.mv (lk rfl)) rfl ?_
      refine Ops.u (Dtu.mv (lk rfl)) rfl ?_
      refine Ops.s (Stp.callOwn [3] rfl rfl Try.call30 (lks rfl) (fun E' le hat => ack_s E' _ _ _ (by first | with_reducible assumption | omega | assumption)) ?_) rfl
      rintro _ _ ⟨rfl, rfl⟩
      refine Ops.nil ?_
      refine Blk.norm ?_
      refine Then.next ?_
      refine Body.region ?_
      refine Ops.u (Dtu.mv (lk rfl)) rfl ?_
      refine Ops.u (Dtu.add (lk rfl) (lk rfl) (w64 (by omega) (by omega))) rfl ?_
      refine Ops.u (Dtu.asg (lk rfl)) rfl ?_
      refine Ops.nil ?_
      refine Round.goK [5, 5, 2, 0] ⟨g.k + 1, O2.ack I2.n, I2, V1, way2, wv2, L2⟩ rfl rfl rfl ⟨rfl, rfl, trivial⟩ rfl rfl ⟨⟨hlt1, hlt2⟩, hoA, hi1, hB3, by dsimp only; omega, by dsimp only; omega, by dsimp only; omega, by dsimp only; omega, hy1, fun c hc => ⟨(hy2 c hc).1, by have := (hy2 c hc).2; dsimp only; omega⟩⟩ (by dsimp only; omega)
    · refine Body.skip ?_
      refine Blk.norm ?_
      refine Then.next ?_
      refine Body.region ?_
      refine Ops.u (Dtu.mv (lk rfl)) rfl ?_
      refine Ops.u (Dtu.add (lk rfl) (lk rfl) (w64 (by omega) (by omega))) rfl ?_
      refine Ops.u (Dtu.asg (lk rfl)) rfl ?_
      refine Ops.nil ?_
      refine Round.goK [2, 2, 2, 0] ⟨g.k + 1, O2, I2, V1, way2, wv2, L2⟩ rfl rfl rfl ⟨rfl, rfl, trivial⟩ rfl rfl ⟨⟨hlt1, hlt2⟩, o2, hi1, by dsimp only; omega, hi3, by dsimp only; omega, w2, w3, hy1, fun c hc => ⟨(hy2 c hc).1, by have := (hy2 c hc).2; dsimp only; omega⟩⟩ (by dsimp only; omega)
  · have w0 := ok.w0
    have w1 := ok.w1
    have hm := ok.m
    have ha := ok.a
    by_cases hz : g.k < steps.length
    · refine Body.seq ?_
      refine Body.seq ?_
      refine Body.region ?_
      refine Ops.u (Dtu.mv (lk rfl)) rfl ?_
      refine Ops.u (Dtu.mv (lk rfl)) rfl ?_
      refine Ops.u (Dtu.lenS Try.underlying53 (Sl.up hv) (lk rfl)) rfl ?_
      refine Ops.u (Dtu.lss (lk rfl) (lk rfl)) rfl ?_
      refine Ops.u (Dtu.mv (lk rfl)) rfl ?_
      refine Ops.decP 30 rfl (fun _ => ?_) (fun hn => absurd (by first | omega | assumption | decide) hn)
      refine Ops.gu rfl rfl rfl (Dtu.mv (lk rfl)) rfl ?_
      refine Ops.gu rfl rfl rfl (Dtu.lss (lk rfl) (lk rfl)) rfl ?_
      refine Ops.u (Dtu.pickT (lk rfl) (lk rfl)) rfl ?_
      refine Ops.nil ?_
      refine Then.next ?_
      refine Body.condP (lk rfl) (fun hy => absurd hy (by first | omega | assumption | decide)) (fun _ => ?_)
      refine Body.exit ?_
      refine Then.exit ?_
      refine Round.exit ?_
      refine Blk.here ?_
      refine Then.next ?_
      refine Body.seq ?_
      refine Body.seq ?_
      refine Body.region ?_
      refine Ops.u (Dtu.asg (lk rfl)) rfl ?_
      refine Ops.nil ?_
      refine Then.next ?_
      refine Body.block ?_
      refine Body.loopH (γ := Nat × Ot × Ov × List HProp) rfl (fun q => [(15, .int .i64 q.1)]) (fun q => [(0, many q.2.2.2), (2, inP ni25 q.2.2.1), (3, outP no24 q.2.1)]) (fun q => q.1 ≤ 3 ∧ OI g.V q.2.1 ∧ g.V[q.2.2.1.n]? = some q.2.2.1.x ∧ q.2.1.b.n ≤ q.2.2.1.n ∧ q.2.2.1.n ≤ q.2.1.a.n ∧ (0 ≤ q.2.1.whn ∧ q.2.1.whn ≤ 200) ∧ (1 ≤ q.1 → q.2.1.b.n = 0 ∨ q.2.1.b.n = q.2.2.1.n) ∧ (2 ≤ q.1 → q.2.2.1.n = q.2.1.a.n ∧ q.2.1.b.n = q.2.1.a.n ∧ q.2.1.last = q.2.1.a.n)) (fun q => 3 - q.1) ((0, g.O, g.I, g.L)) (⟨by omega, ok.o, ok.i, ok.b, ok.m, ⟨ok.w0, by dsimp only; omega⟩, fun h => by dsimp only at h; omega, fun h => by dsimp only at h; omega⟩) ⟨rfl, trivial⟩ rfl ?_
      rintro ⟨k3, O3, I3, L3⟩ u3 ⟨hk3, o3, hI3, hb3, hm3, ⟨w2, w3⟩, hr3, hd3⟩
      dsimp only at hk3 o3 hI3 hb3 hm3 w2 w3 hr3 hd3 ⊢
      have g1 := o3.ga
      have g2 := o3.gb.1
      have gl := o3.ll
      by_cases hk4 : k3 < 3
      · refine Body.seq ?_
        refine Body.seq ?_
        refine Body.region ?_
        refine Ops.u (Dtu.mv (lk rfl)) rfl ?_
        refine Ops.u (Dtu.lss (lk rfl) (lk rfl)) rfl ?_
        refine Ops.nil ?_
        refine Then.next ?_
        refine Body.condP (lk rfl) (fun _ => ?_) (fun hn => absurd (by first | omega | assumption | decide) hn)
        refine Body.skip ?_
        refine Then.next ?_
        refine Body.seq ?_
        refine Body.block ?_
        refine Body.seq ?_
        refine Body.region ?_
        refine Ops.u (Dtu.mv (lk rfl)) rfl ?_
        refine Ops.u (Dtu.mv (lk rfl)) rfl ?_
        refine Ops.u (Dtu.add (lk rfl) (lk rfl) (w64 (by omega) (by omega))) rfl ?_
        refine Ops.s (Stp.callOwn [3, 0] rfl rfl Try.call27 (lks rfl) (fun E' le hat => make_p E' no24 O3 (100 + (k3 : Int)) L3 g1 g2 gl) ?_) rfl
        rintro _ _ ⟨nd120, ne120, ng120, rfl, rfl⟩
        refine Ops.u (Dtu.mv (lk rfl)) rfl ?_
        refine Ops.u (Dtu.ext (lk rfl) rfl) rfl ?_
        refine Ops.u (Dtu.ext (lk rfl) rfl) rfl ?_
        refine Ops.s (Stp.alloc ty73 (fun b16 => ?_)) rfl
        refine Ops.e (Stp.store 0 Try.sizeOf73 (lk rfl) (lk rfl) rfl rfl rfl rfl rfl rfl rfl ?_)
        refine Ops.u (Dtu.asg (lk rfl)) rfl ?_
        refine Ops.nil ?_
        refine Then.next ?_
        refine Body.seq ?_
        have hcx : (⟨O3.b.n, O3.a.n, nd120, ne120, ng120⟩ : Chg).Of g.V (osl 5 1 (.slice nd120 ne120 ng120) (sdifB O3.b.x O3.a.x).length ((sdifB O3.b.x O3.a.x).map (.int .u8)) :: L3) := ⟨_, _, o3.b, o3.a, .head _⟩
        obtain ⟨r1, r2, r3, r4, r5, r6, r7⟩ := comes_round (L := []) o3 hI3 hb3 hm3 (100 + (k3 : Int)) ⟨O3.b.n, O3.a.n, nd120, ne120, ng120⟩ rfl rfl
        have hti := takeI_in hI3 hcx
        have hIc : (takeI g.V I3 ⟨O3.b.n, O3.a.n, nd120, ne120, ng120⟩).x.v.cells.length ≤ 1000 := (o3.g _ (List.mem_of_getElem? hti.1)).len
        have o4 := (o3.make (100 + (k3 : Int))).ack (takeI g.V I3 ⟨O3.b.n, O3.a.n, nd120, ne120, ng120⟩).n
        have gl4 := (o3.make (100 + (k3 : Int))).ll
        have hw4 : ((O3.make (100 + (k3 : Int))).ack (takeI g.V I3 ⟨O3.b.n, O3.a.n, nd120, ne120, ng120⟩).n).whn = 100 + (k3 : Int) := by rw [(ack_w _ _).1]; rfl
        have hfin : 2 ≤ k3 + 1 → (takeI g.V I3 ⟨O3.b.n, O3.a.n, nd120, ne120, ng120⟩).n = ((O3.make (100 + (k3 : Int))).ack (takeI g.V I3 ⟨O3.b.n, O3.a.n, nd120, ne120, ng120⟩).n).a.n ∧ ((O3.make (100 + (k3 : Int))).ack (takeI g.V I3 ⟨O3.b.n, O3.a.n, nd120, ne120, ng120⟩).n).b.n = ((O3.make (100 + (k3 : Int))).ack (takeI g.V I3 ⟨O3.b.n, O3.a.n, nd120, ne120, ng120⟩).n).a.n ∧ ((O3.make (100 + (k3 : Int))).ack (takeI g.V I3 ⟨O3.b.n, O3.a.n, nd120, ne120, ng120⟩).n).last = ((O3.make (100 + (k3 : Int))).ack (takeI g.V I3 ⟨O3.b.n, O3.a.n, nd120, ne120, ng120⟩).n).a.n := fun h => by
          obtain ⟨q1, q2⟩ := r7 (hr3 (by omega))
          rw [r2, r3]
          exact ⟨q1, q2, rfl⟩
        have hle : (takeI g.V I3 ⟨O3.b.n, O3.a.n, nd120, ne120, ng120⟩).n ≤ ((O3.make (100 + (k3 : Int))).ack (takeI g.V I3 ⟨O3.b.n, O3.a.n, nd120, ne120, ng120⟩).n).a.n := by rw [r2]; exact r5
        refine Body.seq ?_
        refine Body.region ?_
        refine Ops.u (Dtu.mv (lk rfl)) rfl ?_
        refine Ops.u (Dtu.neq (lk rfl) (lk rfl)) rfl ?_
        refine Ops.nil ?_
        refine Then.next ?_
        refine Body.condP (lk rfl) (fun hy => absurd hy (by first | omega | assumption | decide)) (fun _ => ?_)
        refine Body.skip ?_
        refine Then.next ?_
        refine Body.seq ?_
        refine Body.region ?_
        refine Ops.u (Dtu.mv (lk rfl)) rfl ?_
        refine Ops.d (Det.lda Try.isAgg73 Try.sizeOf73 (lk rfl) (Rds.ow (m := 3) 0 rfl rfl) rfl) rfl ?_
        refine Ops.s (Stp.callOwn [4, 2] rfl rfl Try.call28 (lks rfl) (fun E' le hat => take_p E' ni25 I3 ⟨O3.b.n, O3.a.n, nd120, ne120, ng120⟩ g.V _ ok.o.vv hI3 hcx) ?_) rfl
        rintro _ _ ⟨rfl, rfl⟩
        refine Ops.nil ?_
        refine Then.next ?_
        refine Body.seq ?_
        refine Body.region ?_
        refine Ops.u (Dtu.mv (lk rfl)) rfl ?_
        refine Ops.s (Stp.callOwn [0] rfl rfl Try.call29 (lks rfl) (fun E' le hat => inow_s E' _ _ (by first | with_reducible assumption | omega | assumption)) ?_) rfl
        rintro _ _ ⟨na130, nb130, nc130, rfl, rfl⟩
        refine Ops.u (Dtu.mv (lk rfl)) rfl ?_
        refine Ops.u (Dtu.ext (lk rfl) rfl) rfl ?_
        refine Ops.u (Dtu.ext (lk rfl) rfl) rfl ?_
        refine Ops.s (Stp.alloc ty62 (fun b19 => ?_)) rfl
        refine Ops.u (Dtu.asg (lk rfl)) rfl ?_
        refine Ops.e (Stp.store 0 Try.sizeOf62 (lk rfl) (lk rfl) rfl rfl rfl rfl rfl rfl rfl ?_)
        refine Ops.nil ?_
        refine Then.next ?_
        refine Body.seq ?_
        refine Body.region ?_
        refine Ops.u (Dtu.mv (lk rfl)) rfl ?_
        refine Ops.u (Dtu.mv (lk rfl)) rfl ?_
        refine Ops.s (Stp.callOwn [5] rfl rfl Try.call30 (lks rfl) (fun E' le hat => ack_s E' _ _ _ (by first | with_reducible assumption | omega | assumption)) ?_) rfl
        rintro _ _ ⟨rfl, rfl⟩
        refine Ops.u (Dtu.neq (lk rfl) (lk rfl)) rfl ?_
        refine Ops.nil ?_
        refine Then.next ?_
        refine Body.condP (lk rfl) (fun hy => absurd hy (by first | omega | assumption | decide)) (fun _ => ?_)
        refine Body.skip ?_
        refine Blk.norm ?_
        refine Then.next ?_
        refine Body.region ?_
        refine Ops.u (Dtu.mv (lk rfl)) rfl ?_
        refine Ops.u (Dtu.add (lk rfl) (lk rfl) (w64 (by omega) (by omega))) rfl ?_
        refine Ops.u (Dtu.asg (lk rfl)) rfl ?_
        refine Ops.nil ?_
        refine Round.goK [4, 5, 2, 0] (k3 + 1, (O3.make (100 + (k3 : Int))).ack (takeI g.V I3 ⟨O3.b.n, O3.a.n, nd120, ne120, ng120⟩).n, takeI g.V I3 ⟨O3.b.n, O3.a.n, nd120, ne120, ng120⟩, _) rfl rfl rfl ⟨rfl, trivial⟩ rfl rfl ⟨hk4, o4, hti.1, r4, hle, ⟨by dsimp only; omega, by dsimp only; omega⟩, fun _ => r6, hfin⟩ (by dsimp only; omega)
      · obtain rfl : k3 = 3 := by omega
        obtain ⟨d1, d2, d3⟩ := hd3 (by omega)
        have hX : I3.x = O3.a.x := by
          have h1 := o3.a
          rw [← d1, hI3] at h1
          exact Option.some.inj h1
        have hq : O3.a.x.eqv I3.x := Stt.eqv_iff.2 hX.symm
        have hcO := o3.ga.len
        have hcI : I3.x.v.cells.length ≤ 1000 := by rw [hX]; exact hcO
        have hdue : dueF O3.a.n O3.b.n O3.last O3.whn 5000 1 = false := by
          rw [d2, d3]; unfold dueF; simp
        refine Body.seq ?_
        refine Body.seq ?_
        refine Body.region ?_
        refine Ops.u (Dtu.mv (lk rfl)) rfl ?_
        refine Ops.u (Dtu.lss (lk rfl) (lk rfl)) rfl ?_
        refine Ops.nil ?_
        refine Then.next ?_
        refine Body.condP (lk rfl) (fun hy => absurd hy (by first | omega | assumption | decide)) (fun _ => ?_)
        refine Body.exit ?_
        refine Then.exit ?_
        refine Round.exit ?_
        refine Blk.here ?_
        refine Then.next ?_
        refine Body.seq ?_
        refine Body.region ?_
        refine Ops.u (Dtu.mv (lk rfl)) rfl ?_
        refine Ops.s (Stp.callOwn [3] rfl rfl Try.call25 (lks rfl) (fun E' le hat => now_s E' _ _ (by first | with_reducible assumption | omega | assumption)) ?_) rfl
        rintro _ _ ⟨na139, nb139, nc139, rfl, rfl⟩
        refine Ops.u (Dtu.mv (lk rfl)) rfl ?_
        refine Ops.u (Dtu.ext (lk rfl) rfl) rfl ?_
        refine Ops.u (Dtu.ext (lk rfl) rfl) rfl ?_
        refine Ops.s (Stp.alloc ty62 (fun b21 => ?_)) rfl
        refine Ops.u (Dtu.asg (lk rfl)) rfl ?_
        refine Ops.e (Stp.store 0 Try.sizeOf62 (lk rfl) (lk rfl) rfl rfl rfl rfl rfl rfl rfl ?_)
        refine Ops.nil ?_
        refine Then.next ?_
        refine Body.seq ?_
        refine Body.region ?_
        refine Ops.u (Dtu.mv (lk rfl)) rfl ?_
        refine Ops.s (Stp.callOwn [5] rfl rfl Try.call29 (lks rfl) (fun E' le hat => inow_s E' _ _ (by first | with_reducible assumption | omega | assumption)) ?_) rfl
        rintro _ _ ⟨na144, nb144, nc144, rfl, rfl⟩
        refine Ops.u (Dtu.mv (lk rfl)) rfl ?_
        refine Ops.u (Dtu.ext (lk rfl) rfl) rfl ?_
        refine Ops.u (Dtu.ext (lk rfl) rfl) rfl ?_
        refine Ops.s (Stp.alloc ty62 (fun b23 => ?_)) rfl
        refine Ops.u (Dtu.asg (lk rfl)) rfl ?_
        refine Ops.e (Stp.store 0 Try.sizeOf62 (lk rfl) (lk rfl) rfl rfl rfl rfl rfl rfl rfl ?_)
        refine Ops.nil ?_
        refine Then.next ?_
        refine Body.seq ?_
        refine Body.region ?_
        refine Ops.s (Stp.call rfl Try.call31 (lks rfl) (fun E' le hat => alive29_ok E') ?_) rfl
        rintro _ _ ⟨rfl, rfl⟩
        refine Ops.u (Dtu.mv (lk rfl)) rfl ?_
        refine Ops.gu rfl rfl rfl (Dtu.mv (lk rfl)) rfl ?_
        refine Ops.gu rfl rfl rfl (Dtu.mv (lk rfl)) rfl ?_
        refine Ops.gu rfl rfl rfl (Dtu.eql (lk rfl) (lk rfl)) rfl ?_
        refine Ops.u (Dtu.pickT (lk rfl) (lk rfl)) rfl ?_
        refine Ops.u (Dtu.mv (lk rfl)) rfl ?_
        refine Ops.decP 153 rfl (fun _ => ?_) (fun hn => absurd (by first | omega | assumption | decide) hn)
        refine Ops.gd rfl rfl rfl (Det.lda Try.isAgg62 Try.sizeOf62 (lk rfl) (Rds.ow (m := 10) 3 rfl rfl) rfl) rfl ?_
        refine Ops.gd rfl rfl rfl (Det.lda Try.isAgg62 Try.sizeOf62 (lk rfl) (Rds.ow (m := 10) 0 rfl rfl) rfl) rfl ?_
        refine Ops.gs rfl rfl rfl (Stp.call rfl Try.call26 (lks rfl) (fun E' le hat => ssame_ok E' O3.a.x I3.x (.slice na139 nb139 nc139) (.slice na144 nb144 nc144) (by first | exact Sl.hatI hat 0 rfl | exact Sl.hatI hat 1 rfl | exact Sl.hatI hat 2 rfl | exact Sl.hatI hat 3 rfl | exact Sl.hatI hat 4 rfl | exact Sl.hatI hat 5 rfl | exact Sl.hatI hat 6 rfl | exact Sl.hatI hat 7 rfl | exact Sl.hatI hat 8 rfl) (by first | exact Sl.hatI hat 0 rfl | exact Sl.hatI hat 1 rfl | exact Sl.hatI hat 2 rfl | exact Sl.hatI hat 3 rfl | exact Sl.hatI hat 4 rfl | exact Sl.hatI hat 5 rfl | exact Sl.hatI hat 6 rfl | exact Sl.hatI hat 7 rfl | exact Sl.hatI hat 8 rfl)) ?_) rfl
        rintro _ _ ⟨rfl, rfl⟩
        refine Ops.u (Dtu.pickT (lk rfl) (lk rfl)) rfl ?_
        refine Ops.u (Dtu.mv (lk rfl)) rfl ?_
        refine Ops.decP 158 rfl (fun _ => ?_) (fun hn => absurd (by first | omega | assumption | decide) hn)
        refine Ops.gu rfl rfl rfl (Dtu.mv (lk rfl)) rfl ?_
        refine Ops.gs rfl rfl rfl (Stp.callOwn [4] rfl rfl Try.call32 (lks rfl) (fun E' le hat => due_s E' _ _ _ _ (by first | with_reducible assumption | omega | assumption) (by first | with_reducible assumption | omega | assumption) (by first | with_reducible assumption | omega | assumption) (by first | with_reducible assumption | omega | assumption)) ?_) rfl
        rintro _ _ ⟨rfl, rfl⟩
        refine Ops.gu rfl rfl rfl (Dtu.not (lk rfl)) rfl ?_
        refine Ops.u (Dtu.pickT (lk rfl) (lk rfl)) rfl ?_
        refine Ops.u (Dtu.asg (lk rfl)) rfl ?_
        refine Ops.nil ?_
        refine Then.next ?_
        refine Body.ret ?_
        exact ⟨.inr rfl, _, pk [] rfl, congrArg Value.bool (notF hdue), rfl⟩
    · refine Body.seq ?_
      refine Body.seq ?_
      refine Body.region ?_
      refine Ops.u (Dtu.mv (lk rfl)) rfl ?_
      refine Ops.u (Dtu.mv (lk rfl)) rfl ?_
      refine Ops.u (Dtu.lenS Try.underlying53 (Sl.up hv) (lk rfl)) rfl ?_
      refine Ops.u (Dtu.lss (lk rfl) (lk rfl)) rfl ?_
      refine Ops.u (Dtu.mv (lk rfl)) rfl ?_
      refine Ops.decP 30 rfl (fun hy => absurd hy (by first | omega | assumption | decide)) (fun _ => ?_)
      refine Ops.gn rfl rfl rfl rfl rfl ?_
      refine Ops.gn rfl rfl rfl rfl rfl ?_
      refine Ops.u (Dtu.pickF (lk rfl) (lk rfl)) rfl ?_
      refine Ops.nil ?_
      refine Then.next ?_
      refine Body.condF (lk rfl) ?_
      refine Body.exit ?_
      refine Then.exit ?_
      refine Round.exit ?_
      refine Blk.here ?_
      refine Then.next ?_
      refine Body.seq ?_
      refine Body.seq ?_
      refine Body.region ?_
      refine Ops.u (Dtu.asg (lk rfl)) rfl ?_
      refine Ops.nil ?_
      refine Then.next ?_
      refine Body.block ?_
      refine Body.loopH (γ := Nat × Ot × Ov × List HProp) rfl (fun q => [(15, .int .i64 q.1)]) (fun q => [(0, many q.2.2.2), (2, inP ni25 q.2.2.1), (3, outP no24 q.2.1)]) (fun q => q.1 ≤ 3 ∧ OI g.V q.2.1 ∧ g.V[q.2.2.1.n]? = some q.2.2.1.x ∧ q.2.1.b.n ≤ q.2.2.1.n ∧ q.2.2.1.n ≤ q.2.1.a.n ∧ (0 ≤ q.2.1.whn ∧ q.2.1.whn ≤ 200) ∧ (1 ≤ q.1 → q.2.1.b.n = 0 ∨ q.2.1.b.n = q.2.2.1.n) ∧ (2 ≤ q.1 → q.2.2.1.n = q.2.1.a.n ∧ q.2.1.b.n = q.2.1.a.n ∧ q.2.1.last = q.2.1.a.n)) (fun q => 3 - q.1) ((0, g.O, g.I, g.L)) (⟨by omega, ok.o, ok.i, ok.b, ok.m, ⟨ok.w0, by dsimp only; omega⟩, fun h => by dsimp only at h; omega, fun h => by dsimp only at h; omega⟩) ⟨rfl, trivial⟩ rfl ?_
      rintro ⟨k3, O3, I3, L3⟩ u3 ⟨hk3, o3, hI3, hb3, hm3, ⟨w2, w3⟩, hr3, hd3⟩
      dsimp only at hk3 o3 hI3 hb3 hm3 w2 w3 hr3 hd3 ⊢
      have g1 := o3.ga
      have g2 := o3.gb.1
      have gl := o3.ll
      by_cases hk4 : k3 < 3
      · refine Body.seq ?_
        refine Body.seq ?_
        refine Body.region ?_
        refine Ops.u (Dtu.mv (lk rfl)) rfl ?_
        refine Ops.u (Dtu.lss (lk rfl) (lk rfl)) rfl ?_
        refine Ops.nil ?_
        refine Then.next ?_
        refine Body.condP (lk rfl) (fun _ => ?_) (fun hn => absurd (by first | omega | assumption | decide) hn)
        refine Body.skip ?_
        refine Then.next ?_
        refine Body.seq ?_
        refine Body.block ?_
        refine Body.seq ?_
        refine Body.region ?_
        refine Ops.u (Dtu.mv (lk rfl)) rfl ?_
        refine Ops.u (Dtu.mv (lk rfl)) rfl ?_
        refine Ops.u (Dtu.add (lk rfl) (lk rfl) (w64 (by omega) (by omega))) rfl ?_
        refine Ops.s (Stp.callOwn [3, 0] rfl rfl Try.call27 (lks rfl) (fun E' le hat => make_p E' no24 O3 (100 + (k3 : Int)) L3 g1 g2 gl) ?_) rfl
        rintro _ _ ⟨nd120, ne120, ng120, rfl, rfl⟩
        refine Ops.u (Dtu.mv (lk rfl)) rfl ?_
        refine Ops.u (Dtu.ext (lk rfl) rfl) rfl ?_
        refine Ops.u (Dtu.ext (lk rfl) rfl) rfl ?_
        refine Ops.s (Stp.alloc ty73 (fun b16 => ?_)) rfl
        refine Ops.e (Stp.store 0 Try.sizeOf73 (lk rfl) (lk rfl) rfl rfl rfl rfl rfl rfl rfl ?_)
        refine Ops.u (Dtu.asg (lk rfl)) rfl ?_
        refine Ops.nil ?_
        refine Then.next ?_
        refine Body.seq ?_
        have hcx : (⟨O3.b.n, O3.a.n, nd120, ne120, ng120⟩ : Chg).Of g.V (osl 5 1 (.slice nd120 ne120 ng120) (sdifB O3.b.x O3.a.x).length ((sdifB O3.b.x O3.a.x).map (.int .u8)) :: L3) := ⟨_, _, o3.b, o3.a, .head _⟩
        obtain ⟨r1, r2, r3, r4, r5, r6, r7⟩ := comes_round (L := []) o3 hI3 hb3 hm3 (100 + (k3 : Int)) ⟨O3.b.n, O3.a.n, nd120, ne120, ng120⟩ rfl rfl
        have hti := takeI_in hI3 hcx
        have hIc : (takeI g.V I3 ⟨O3.b.n, O3.a.n, nd120, ne120, ng120⟩).x.v.cells.length ≤ 1000 := (o3.g _ (List.mem_of_getElem? hti.1)).len
        have o4 := (o3.make (100 + (k3 : Int))).ack (takeI g.V I3 ⟨O3.b.n, O3.a.n, nd120, ne120, ng120⟩).n
        have gl4 := (o3.make (100 + (k3 : Int))).ll
        have hw4 : ((O3.make (100 + (k3 : Int))).ack (takeI g.V I3 ⟨O3.b.n, O3.a.n, nd120, ne120, ng120⟩).n).whn = 100 + (k3 : Int) := by rw [(ack_w _ _).1]; rfl
        have hfin : 2 ≤ k3 + 1 → (takeI g.V I3 ⟨O3.b.n, O3.a.n, nd120, ne120, ng120⟩).n = ((O3.make (100 + (k3 : Int))).ack (takeI g.V I3 ⟨O3.b.n, O3.a.n, nd120, ne120, ng120⟩).n).a.n ∧ ((O3.make (100 + (k3 : Int))).ack (takeI g.V I3 ⟨O3.b.n, O3.a.n, nd120, ne120, ng120⟩).n).b.n = ((O3.make (100 + (k3 : Int))).ack (takeI g.V I3 ⟨O3.b.n, O3.a.n, nd120, ne120, ng120⟩).n).a.n ∧ ((O3.make (100 + (k3 : Int))).ack (takeI g.V I3 ⟨O3.b.n, O3.a.n, nd120, ne120, ng120⟩).n).last = ((O3.make (100 + (k3 : Int))).ack (takeI g.V I3 ⟨O3.b.n, O3.a.n, nd120, ne120, ng120⟩).n).a.n := fun h => by
          obtain ⟨q1, q2⟩ := r7 (hr3 (by omega))
          rw [r2, r3]
          exact ⟨q1, q2, rfl⟩
        have hle : (takeI g.V I3 ⟨O3.b.n, O3.a.n, nd120, ne120, ng120⟩).n ≤ ((O3.make (100 + (k3 : Int))).ack (takeI g.V I3 ⟨O3.b.n, O3.a.n, nd120, ne120, ng120⟩).n).a.n := by rw [r2]; exact r5
        refine Body.seq ?_
        refine Body.region ?_
        refine Ops.u (Dtu.mv (lk rfl)) rfl ?_
        refine Ops.u (Dtu.neq (lk rfl) (lk rfl)) rfl ?_
        refine Ops.nil ?_
        refine Then.next ?_
        refine Body.condP (lk rfl) (fun hy => absurd hy (by first | omega | assumption | decide)) (fun _ => ?_)
        refine Body.skip ?_
        refine Then.next ?_
        refine Body.seq ?_
        refine Body.region ?_
        refine Ops.u (Dtu.mv (lk rfl)) rfl ?_
        refine Ops.d (Det.lda Try.isAgg73 Try.sizeOf73 (lk rfl) (Rds.ow (m := 3) 0 rfl rfl) rfl) rfl ?_
        refine Ops.s (Stp.callOwn [4, 2] rfl rfl Try.call28 (lks rfl) (fun E' le hat => take_p E' ni25 I3 ⟨O3.b.n, O3.a.n, nd120, ne120, ng120⟩ g.V _ ok.o.vv hI3 hcx) ?_) rfl
        rintro _ _ ⟨rfl, rfl⟩
        refine Ops.nil ?_
        refine Then.next ?_
        refine Body.seq ?_
        refine Body.region ?_
        refine Ops.u (Dtu.mv (lk rfl)) rfl ?_
        refine Ops.s (Stp.callOwn [0] rfl rfl Try.call29 (lks rfl) (fun E' le hat => inow_s E' _ _ (by first | with_reducible assumption | omega | assumption)) ?_) rfl
        rintro _ _ ⟨na130, nb130, nc130, rfl, rfl⟩
        refine Ops.u (Dtu.mv (lk rfl)) rfl ?_
        refine Ops.u (Dtu.ext (lk rfl) rfl) rfl ?_
        refine Ops.u (Dtu.ext (lk rfl) rfl) rfl ?_
        refine Ops.s (Stp.alloc ty62 (fun b19 => ?_)) rfl
        refine Ops.u (Dtu.asg (lk rfl)) rfl ?_
        refine Ops.e (Stp.store 0 Try.sizeOf62 (lk rfl) (lk rfl) rfl rfl rfl rfl rfl rfl rfl ?_)
        refine Ops.nil ?_
        refine Then.next ?_
        refine Body.seq ?_
        refine Body.region ?_
        refine Ops.u (Dtu.mv (lk rfl)) rfl ?_
        refine Ops.u (Dtu.mv (lk rfl)) rfl ?_
        refine Ops.s (Stp.callOwn [5] rfl rfl Try.call30 (lks rfl) (fun E' le hat => ack_s E' _ _ _ (by first | with_reducible assumption | omega | assumption)) ?_) rfl
        rintro _ _ ⟨rfl, rfl⟩
        refine Ops.u (Dtu.neq (lk rfl) (lk rfl)) rfl ?_
        refine Ops.nil ?_
        refine Then.next ?_
        refine Body.condP (lk rfl) (fun hy => absurd hy (by first | omega | assumption | decide)) (fun _ => ?_)
        refine Body.skip ?_
        refine Blk.norm ?_
        refine Then.next ?_
        refine Body.region ?_
        refine Ops.u (Dtu.mv (lk rfl)) rfl ?_
        refine Ops.u (Dtu.add (lk rfl) (lk rfl) (w64 (by omega) (by omega))) rfl ?_
        refine Ops.u (Dtu.asg (lk rfl)) rfl ?_
        refine Ops.nil ?_
        refine Round.goK [4, 5, 2, 0] (k3 + 1, (O3.make (100 + (k3 : Int))).ack (takeI g.V I3 ⟨O3.b.n, O3.a.n, nd120, ne120, ng120⟩).n, takeI g.V I3 ⟨O3.b.n, O3.a.n, nd120, ne120, ng120⟩, _) rfl rfl rfl ⟨rfl, trivial⟩ rfl rfl ⟨hk4, o4, hti.1, r4, hle, ⟨by dsimp only; omega, by dsimp only; omega⟩, fun _ => r6, hfin⟩ (by dsimp only; omega)
      · obtain rfl : k3 = 3 := by omega
        obtain ⟨d1, d2, d3⟩ := hd3 (by omega)
        have hX : I3.x = O3.a.x := by
          have h1 := o3.a
          rw [← d1, hI3] at h1
          exact Option.some.inj h1
        have hq : O3.a.x.eqv I3.x := Stt.eqv_iff.2 hX.symm
        have hcO := o3.ga.len
        have hcI : I3.x.v.cells.length ≤ 1000 := by rw [hX]; exact hcO
        have hdue : dueF O3.a.n O3.b.n O3.last O3.whn 5000 1 = false := by
          rw [d2, d3]; unfold dueF; simp
        refine Body.seq ?_
        refine Body.seq ?_
        refine Body.region ?_
        refine Ops.u (Dtu.mv (lk rfl)) rfl ?_
        refine Ops.u (Dtu.lss (lk rfl) (lk rfl)) rfl ?_
        refine Ops.nil ?_
        refine Then.next ?_
        refine Body.condP (lk rfl) (fun hy => absurd hy (by first | omega | assumption | decide)) (fun _ => ?_)
        refine Body.exit ?_
        refine Then.exit ?_
        refine Round.exit ?_
        refine Blk.here ?_
        refine Then.next ?_
        refine Body.seq ?_
        refine Body.region ?_
        refine Ops.u (Dtu.mv (lk rfl)) rfl ?_
        refine Ops.s (Stp.callOwn [3] rfl rfl Try.call25 (lks rfl) (fun E' le hat => now_s E' _ _ (by first | with_reducible assumption | omega | assumption)) ?_) rfl
        rintro _ _ ⟨na139, nb139, nc139, rfl, rfl⟩
        refine Ops.u (Dtu.mv (lk rfl)) rfl ?_
        refine Ops.u (Dtu.ext (lk rfl) rfl) rfl ?_
        refine Ops.u (Dtu.ext (lk rfl) rfl) rfl ?_
        refine Ops.s (Stp.alloc ty62 (fun b21 => ?_)) rfl
        refine Ops.u (Dtu.asg (lk rfl)) rfl ?_
        refine Ops.e (Stp.store 0 Try.sizeOf62 (lk rfl) (lk rfl) rfl rfl rfl rfl rfl rfl rfl ?_)
        refine Ops.nil ?_
        refine Then.next ?_
        refine Body.seq ?_
        refine Body.region ?_
        refine Ops.u (Dtu.mv (lk rfl)) rfl ?_
        refine Ops.s (Stp.callOwn [5] rfl rfl Try.call29 (lks rfl) (fun E' le hat => inow_s E' _ _ (by first | with_reducible assumption | omega | assumption)) ?_) rfl
        rintro _ _ ⟨na144, nb144, nc144, rfl, rfl⟩
        refine Ops.u (Dtu.mv (lk rfl)) rfl ?_
        refine Ops.u (Dtu.ext (lk rfl) rfl) rfl ?_
        refine Ops.u (Dtu.ext (lk rfl) rfl) rfl ?_
        refine Ops.s (Stp.alloc ty62 (fun b23 => ?_)) rfl
        refine Ops.u (Dtu.asg (lk rfl)) rfl ?_
        refine Ops.e (Stp.store 0 Try.sizeOf62 (lk rfl) (lk rfl) rfl rfl rfl rfl rfl rfl rfl ?_)
        refine Ops.nil ?_
        refine Then.next ?_
        refine Body.seq ?_
        refine Body.region ?_
        refine Ops.s (Stp.call rfl Try.call31 (lks rfl) (fun E' le hat => alive29_ok E') ?_) rfl
        rintro _ _ ⟨rfl, rfl⟩
        refine Ops.u (Dtu.mv (lk rfl)) rfl ?_
        refine Ops.gu rfl rfl rfl (Dtu.mv (lk rfl)) rfl ?_
        refine Ops.gu rfl rfl rfl (Dtu.mv (lk rfl)) rfl ?_
        refine Ops.gu rfl rfl rfl (Dtu.eql (lk rfl) (lk rfl)) rfl ?_
        refine Ops.u (Dtu.pickT (lk rfl) (lk rfl)) rfl ?_
        refine Ops.u (Dtu.mv (lk rfl)) rfl ?_
        refine Ops.decP 153 rfl (fun _ => ?_) (fun hn => absurd (by first | omega | assumption | decide) hn)
        refine Ops.gd rfl rfl rfl (Det.lda Try.isAgg62 Try.sizeOf62 (lk rfl) (Rds.ow (m := 10) 3 rfl rfl) rfl) rfl ?_
        refine Ops.gd rfl rfl rfl (Det.lda Try.isAgg62 Try.sizeOf62 (lk rfl) (Rds.ow (m := 10) 0 rfl rfl) rfl) rfl ?_
        refine Ops.gs rfl rfl rfl (Stp.call rfl Try.call26 (lks rfl) (fun E' le hat => ssame_ok E' O3.a.x I3.x (.slice na139 nb139 nc139) (.slice na144 nb144 nc144) (by first | exact Sl.hatI hat 0 rfl | exact Sl.hatI hat 1 rfl | exact Sl.hatI hat 2 rfl | exact Sl.hatI hat 3 rfl | exact Sl.hatI hat 4 rfl | exact Sl.hatI hat 5 rfl | exact Sl.hatI hat 6 rfl | exact Sl.hatI hat 7 rfl | exact Sl.hatI hat 8 rfl) (by first | exact Sl.hatI hat 0 rfl | exact Sl.hatI hat 1 rfl | exact Sl.hatI hat 2 rfl | exact Sl.hatI hat 3 rfl | exact Sl.hatI hat 4 rfl | exact Sl.hatI hat 5 rfl | exact Sl.hatI hat 6 rfl | exact Sl.hatI hat 7 rfl | exact Sl.hatI hat 8 rfl)) ?_) rfl
        rintro _ _ ⟨rfl, rfl⟩
        refine Ops.u (Dtu.pickT (lk rfl) (lk rfl)) rfl ?_
        refine Ops.u (Dtu.mv (lk rfl)) rfl ?_
        refine Ops.decP 158 rfl (fun _ => ?_) (fun hn => absurd (by first | omega | assumption | decide) hn)
        refine Ops.gu rfl rfl rfl (Dtu.mv (lk rfl)) rfl ?_
        refine Ops.gs rfl rfl rfl (Stp.callOwn [4] rfl rfl Try.call32 (lks rfl) (fun E' le hat => due_s E' _ _ _ _ (by first | with_reducible assumption | omega | assumption) (by first | with_reducible assumption | omega | assumption) (by first | with_reducible assumption | omega | assumption) (by first | with_reducible assumption | omega | assumption)) ?_) rfl
        rintro _ _ ⟨rfl, rfl⟩
        refine Ops.gu rfl rfl rfl (Dtu.not (lk rfl)) rfl ?_
        refine Ops.u (Dtu.pickT (lk rfl) (lk rfl)) rfl ?_
        refine Ops.u (Dtu.asg (lk rfl)) rfl ?_
        refine Ops.nil ?_
        refine Then.next ?_
        refine Body.ret ?_
        exact ⟨.inr rfl, _, pk [] rfl, congrArg Value.bool (notF hdue), rfl⟩
end Go.Proofs.Ytagcpamchgpgiaa
end
section
/- Steps as arguments. -/
namespace Go.Proofs.Ytagcpamchgpgiaa
set_option maxRecDepth 100000
set_option linter.unusedVariables false
set_option linter.unusedSimpArgs false
open Go.Sx Go.ChangeShapes Go.RowKit Go.WideShapes
section
variable {H : Type} {enc : TypeId × Value → H} {W : World} {base : Nat} {held : Bool} {fuel : Nat} {cs : List Value} {x : DataW H × List MemPlace}
theorem cells15_67 : Try.prog.cellsOf 67 = 15 := by kernel_rfl
theorem trod_step (h : DataW.trod enc Try.prog W base (fun _ => true) held fuel 67 cs = some x) : ∃ e : SStep, cs = e.enc ∧ e.In (envOf W) := by
  have hl := lenT Try.underlying67 h
  rw [cells15_67] at hl
  match cs, hl with
  | [v0, v1, v2, v3, v4, v5, v6, v7, v8, v9, v10, v11, v12, v13, v14], _ =>
    obtain ⟨n0, y0, h0⟩ := fldT Try.underlying67 h 0 4 0 1 rfl rfl rfl cells1_4
    obtain ⟨n1, y1, h1⟩ := fldT Try.underlying67 h 1 4 1 1 rfl rfl rfl cells1_4
    obtain ⟨n2, y2, h2⟩ := fldT Try.underlying67 h 2 4 2 1 rfl rfl rfl cells1_4
    obtain ⟨n3, y3, h3⟩ := fldT Try.underlying67 h 3 62 3 10 rfl rfl rfl cells10_62
    obtain ⟨n4, y4, h4⟩ := fldT Try.underlying67 h 4 5 13 1 rfl rfl rfl cells1_5
    obtain ⟨n5, y5, h5⟩ := fldT Try.underlying67 h 5 5 14 1 rfl rfl rfl cells1_5
    obtain ⟨b0, e0, _⟩ := DataW.trod_bool Try.underlying4 h0
    obtain ⟨b1, e1, _⟩ := DataW.trod_bool Try.underlying4 h1
    obtain ⟨b2, e2, _⟩ := DataW.trod_bool Try.underlying4 h2
    obtain ⟨e, e3, he⟩ := trod_sin h3
    obtain ⟨a4, e4, _, w4⟩ := DataW.trod_int Try.underlying5 h4
    obtain ⟨a5, e5, _, w5⟩ := DataW.trod_int Try.underlying5 h5
    have k4 := bounds_u8 w4
    have k5 := bounds_u8 w5
    simp [Sin.enc] at e0 e1 e2 e3 e4 e5
    obtain ⟨q0, q1, q2, q3, q4, q5, q6, q7, q8, q9⟩ := e3
    subst e0 e1 e2 q0 q1 q2 q3 q4 q5 q6 q7 q8 q9 e4 e5
    exact ⟨⟨b0, b1, b2, e, a4, a5⟩, rfl, ⟨he, by dsimp only; omega, by dsimp only; omega, by dsimp only; omega, by dsimp only; omega⟩⟩
theorem trod_steps (h : DataW.trod enc Try.prog W base (fun _ => true) held fuel 53 cs = some x) : ∃ (s : Value) (l : List SStep), cs = [s] ∧ Sl (envOf W) [] 15 s l.length (l.flatMap SStep.enc) ∧ ∀ e ∈ l, e.In (envOf W) :=
  trod_list Try.underlying53 cells15_67 (by omega) (fun _ => rfl) (fun h => trod_step h) h
end
end Go.Proofs.Ytagcpamchgpgiaa
end
section
/- SyncVersions: the walk. -/
namespace Go.Proofs.Ytagcpamchgpgiaa
set_option maxRecDepth 100000
set_option maxHeartbeats 4000000
set_option linter.unusedVariables false
set_option linter.unusedSimpArgs false
open Go.Sx

/-- a state of the list of all -/
structure AS where
  x : Stt
  s : Value
instance : Inhabited AS := ⟨⟨Stt.first, .slice none 0 0⟩⟩
def AS.enc (e : AS) : List Value := [.int .i64 e.x.v.rows, .int .i64 e.x.v.cols, e.s, .int .i64 e.x.v.row, .int .i64 e.x.v.col, .bool e.x.v.vis, .string e.x.title, .string e.x.clip, .int .u64 e.x.clips, .int .u64 e.x.bells]
def AS.In (e : AS) (L : List HProp) : Prop := osl 127 4 e.s e.x.v.cells.length (e.x.v.cells.flatMap Cell.enc) ∈ L
theorem now_p (E : Env) (o : Nat) (O : Ot) (L : List HProp) (hb : O.a.x.v.cells.length ≤ 1000) : Does Try.prog 25 #[.pointer (some ⟨o, 0, none⟩)] E ([outP o O, many L]) fun r H' => ∃ m1 m2 m3, r = .tuple #[.int .u64 (O.a.n : Nat), .agg (AS.enc ⟨O.a.x, .slice m1 m2 m3⟩).toArray] ∧ H' = [outP o O, many (osl 127 4 (.slice m1 m2 m3) O.a.x.v.cells.length (O.a.x.v.cells.flatMap Cell.enc) :: L)] := by
  refine Does.pst (Does.frm (Hc := [outP o O]) (Hf := [many L]) fun E' le hat => now_s E' o O hb) ?_
  rintro r H' ⟨A, ⟨m1, m2, m3, rfl, rfl⟩, rfl⟩
  exact ⟨_, fun w s => (manyCons (s.perm (List.Perm.swap _ _ _ |>.trans (List.Perm.cons _ (List.Perm.swap _ _ _))))).perm (List.Perm.swap _ _ _), m1, m2, m3, rfl, rfl⟩
structure WG where
  k : Nat
  O : Ot
  I : Ov
  all : List AS
  av : Value
  way : List Chg
  wv : Value
  back : List Nat
  bv : Value
  last : Nat
  L : List HProp
def WG.V (g : WG) : List Stt := g.all.map AS.x
structure WG.Ok (g : WG) : Prop where
  o : OI g.V g.O
  i : g.V[g.I.n]? = some g.I.x
  m : g.I.n ≤ g.O.a.n
  a : g.O.a.n ≤ g.k
  s : ∀ e ∈ g.all, e.In g.L
  lw : g.way.length ≤ g.k
  lb : g.back.length ≤ g.k
  la : g.last ≤ g.I.n
  w : 0 ≤ g.O.whn ∧ g.O.whn ≤ 100
  y : ∀ c ∈ g.way, c.Of g.V g.L ∧ c.n ≤ g.O.a.n
  z : ∀ n ∈ g.back, n ≤ g.O.a.n
def U64s (l : List Nat) : List Value := l.map fun (n : Nat) => Value.int .u64 (n : Int)
theorem U64s_snoc (l : List Nat) (n : Nat) : U64s (l ++ [n]) = U64s l ++ [Value.int .u64 (n : Int)] := by simp [U64s]
theorem AS.In.mono {e : AS} {L M : List HProp} (h : e.In L) (hs : ∀ A ∈ L, A ∈ M) : e.In M := hs _ h
theorem vers29_ok (E : Env) (v : Value) (steps : List SStep) (hv : Sl E [] 15 v steps.length (steps.flatMap SStep.enc)) (hS : ∀ x ∈ steps, x.In E) : Does Try.prog 6 #[v] E ([]) fun r H' => r = .bool true ∧ H' = [] := by
  refine Does.pure hv.len fun hlen => ?_
  refine Does.go _ _ Try.func6 rfl Try.ntmps6 rfl rfl ?_
  skip
  refine Body.seq ?_
  refine Body.region ?_
  refine Ops.u (Dtu.asg (lk rfl)) rfl ?_
  refine Ops.nil ?_
  refine Then.next ?_
  refine Body.seq ?_
  refine Body.region ?_
  refine Ops.s (Stp.call rfl Try.call21 (lks rfl) (fun E' le hat => send_s E') ?_) rfl
  rintro _ _ ⟨no18, rfl, rfl⟩
  refine Ops.s (Stp.call rfl Try.call22 (lks rfl) (fun E' le hat => recv_s E') ?_) rfl
  rintro _ _ ⟨ni19, rfl, rfl⟩
  refine Ops.u (Dtu.asg (lk rfl)) rfl ?_
  refine Ops.u (Dtu.asg (lk rfl)) rfl ?_
  refine Ops.nil ?_
  refine Then.next ?_
  refine Body.seq ?_
  refine Body.region ?_
  refine Ops.s (Stp.call rfl Try.call23 (lks rfl) (fun E' le hat => sfirstG_ok E') ?_) rfl
  rintro _ _ ⟨f20, fe20, fa20, fm20, fc20, rfl, rfl⟩
  refine Ops.s (Stp.buildSliceO Try.underlying64 ty62 (by decide) (by decide) (lkp rfl) rfl rfl rfl (by decide) (fun v21 => ?_)) rfl
  refine Ops.u (Dtu.asg (lk rfl)) rfl ?_
  refine Ops.nil ?_
  refine Then.next ?_
  refine Body.seq ?_
  refine Body.region ?_
  refine Ops.u (Dtu.asg (lk rfl)) rfl ?_
  refine Ops.nil ?_
  refine Then.next ?_
  refine Body.seq ?_
  refine Body.region ?_
  refine Ops.u (Dtu.asg (lk rfl)) rfl ?_
  refine Ops.nil ?_
  refine Then.next ?_
  refine Body.seq ?_
  refine Body.region ?_
  refine Ops.u (Dtu.asg (lk rfl)) rfl ?_
  refine Ops.nil ?_
  refine Then.next ?_
  refine Body.seq ?_
  refine Body.seq ?_
  refine Body.region ?_
  refine Ops.u (Dtu.asg (lk rfl)) rfl ?_
  refine Ops.nil ?_
  refine Then.next ?_
  refine Body.block ?_
  refine Body.conseq (fun w s => osl_nil (t := 22) (sz := 1) (a := none) (osl_nil (t := 73) (sz := 3) (a := none) (manyCons ((many_nil (s.perm (List.Perm.swap _ _ _))).perm (List.Perm.swap _ _ _))))) ?_
  refine Body.loopL (γ := WG) [0, 2, 3, 4] rfl (fun g => [(9, .int .i64 g.k), (8, .int .u64 (g.last : Nat)), (7, g.bv), (6, g.wv), (5, g.av)]) (fun g => [(0, osl 22 1 g.bv g.back.length (U64s g.back)), (1, osl 73 3 g.wv g.way.length (g.way.flatMap Chg.enc)), (2, many g.L), (3, osl 62 10 g.av g.all.length (g.all.flatMap AS.enc)), (4, inP ni19 g.I), (5, outP no18 g.O)]) (fun _ => rfl) (fun _ _ => rfl) (fun g => (g.k ≤ steps.length ∧ g.k ≤ 80) ∧ g.Ok) (fun g => 80 - g.k) (⟨0, Ot.new, ⟨0, Stt.first⟩, [⟨f20, .slice fa20 fm20 fc20⟩], v21, [], .slice none 0 0, [], .slice none 0 0, 0, _⟩) (⟨⟨Nat.zero_le _, Nat.zero_le _⟩, (by show OI [f20] Ot.new; rw [fe20]; exact OI.new), (by show [f20][0]? = some Stt.first; rw [fe20]; rfl), Nat.le_refl _, Nat.le_refl _, (by intro e he; rw [List.mem_singleton.1 he]; exact .head _), Nat.le_refl _, Nat.le_refl _, Nat.le_refl _, ⟨by show (0 : Int) ≤ 0; decide, by show (0 : Int) ≤ 100; decide⟩, by simp, by simp⟩) ⟨rfl, rfl, rfl, rfl, rfl, trivial⟩ rfl ?_
  rintro g u0 ⟨⟨hk1, hk2⟩, ok⟩
  by_cases hlt : g.k < steps.length ∧ g.k < 80
  · have hlt1 := hlt.1
    have hlt2 := hlt.2
    have hin := hS steps[g.k]! (by rw [getElem!_pos steps g.k hlt1]; exact List.getElem_mem _)
    have hone := hin.one
    have ha := ok.a
    have hm : (g.O.a.n : Int) < 4611686018427387903 := by omega
    have hVl : g.all.length = g.O.a.n + 1 := by have := ok.o.len; rwa [WG.V, List.length_map] at this
    refine Body.seq ?_
    refine Body.seq ?_
    refine Body.region ?_
    refine Ops.u (Dtu.mv (lk rfl)) rfl ?_
    refine Ops.u (Dtu.mv (lk rfl)) rfl ?_
    refine Ops.u (Dtu.lenS Try.underlying53 (Sl.up hv) (lk rfl)) rfl ?_
    refine Ops.u (Dtu.lss (lk rfl) (lk rfl)) rfl ?_
    refine Ops.u (Dtu.mv (lk rfl)) rfl ?_
    refine Ops.decP 26 rfl (fun _ => ?_) (fun hn => absurd (by first | omega | assumption | decide) hn)
    refine Ops.gu rfl rfl rfl (Dtu.mv (lk rfl)) rfl ?_
    refine Ops.gu rfl rfl rfl (Dtu.lss (lk rfl) (lk rfl)) rfl ?_
    refine Ops.u (Dtu.pickT (lk rfl) (lk rfl)) rfl ?_
    refine Ops.nil ?_
    refine Then.next ?_
    refine Body.condP (lk rfl) (fun _ => ?_) (fun hn => absurd (by first | omega | assumption | decide) hn)
    refine Body.skip ?_
    refine Then.next ?_
    refine Body.seq ?_
    refine Body.block ?_
    refine Body.seq ?_
    refine Body.region ?_
    refine Ops.u (Dtu.mv (lk rfl)) rfl ?_
    refine Ops.u (Dtu.mv (lk rfl)) rfl ?_
    refine Ops.u (Dtu.ix (i := (g.k)) Try.underlying53 Try.sizeOf67 (Sl.up hv) (lk rfl) (lk rfl) (by omega) (by omega)) rfl ?_
    refine Ops.d (Det.lda Try.isAgg67 Try.sizeOf67 (lk rfl) (Rds.sl (Sl.up hv) (gf (sz := 15) (fun _ => rfl) (by omega))) rfl) rfl ?_
    refine Ops.s (Stp.alloc ty67 (fun b10 => ?_)) rfl
    refine Ops.e (Stp.store 0 Try.sizeOf67 (lk rfl) (lk rfl) rfl rfl rfl rfl (by exact all_one (by assumption)) rfl rfl ?_)
    refine Ops.nil ?_
    refine Then.next ?_
    refine Body.seqL (γ := Ot × List AS × Value × List HProp) [0, 2, 3, 4, 6, 7, 8, 9, 10] rfl (fun y => [(5, y.2.2.1)]) (fun y => [(3, many y.2.2.2), (4, osl 62 10 y.2.2.1 y.2.1.length (y.2.1.flatMap AS.enc)), (6, outP no18 y.1)]) (fun _ => rfl) (fun _ _ => rfl) (fun y => OI (y.2.1.map AS.x) y.1 ∧ (∀ (j : Nat) (x : Stt), g.V[j]? = some x → (y.2.1.map AS.x)[j]? = some x) ∧ g.O.a.n ≤ y.1.a.n ∧ y.1.a.n ≤ g.O.a.n + 1 ∧ y.1.whn = g.O.whn ∧ (∀ e ∈ y.2.1, e.In y.2.2.2) ∧ (∀ A ∈ g.L, A ∈ y.2.2.2)) ?_ ?_
    · by_cases hs : steps[g.k]!.set = true
      · by_cases hk : steps[g.k]!.e.x.ok = true
        · have hk0 : (if steps[g.k]!.e.x.ok = true then (0 : Int) else 3) = 0 := if_pos hk
          by_cases hq : steps[g.k]!.e.x.eqv g.O.a.x
          · have hO : g.O.set steps[g.k]!.e.x = g.O := by rw [Ot.set, if_pos hk, if_pos hq]
            have hNc : (g.O.set steps[g.k]!.e.x).a.x.v.cells.length ≤ 1000 := by rw [hO]; exact ok.o.ga.len
            have hq2 : g.O.a.x.eqv steps[g.k]!.e.x := Stt.eqv_iff.2 (Stt.eqv_iff.1 hq).symm
            have hq3 : ¬ ¬ g.O.a.x.eqv steps[g.k]!.e.x := fun h => h hq2
            refine Body.seq ?_
            refine Body.region ?_
            refine Ops.u (Dtu.fld fa67_0 (lk rfl)) rfl ?_
            refine Ops.d (Det.ld Try.isAgg4 (lk rfl) (Rd.ow 0 rfl rfl)) rfl ?_
            refine Ops.u (Dtu.mv (lk rfl)) rfl ?_
            refine Ops.dec 38 rfl (fun _ => ?_) (fun hn => absurd hn (by first | (rw [hs]; decide) | simp [hs]))
            refine Ops.gu rfl rfl rfl (Dtu.mv (lk rfl)) rfl ?_
            refine Ops.gu rfl rfl rfl (Dtu.fld fa67_3 (lk rfl)) rfl ?_
            refine Ops.gd rfl rfl rfl (Det.lda Try.isAgg62 Try.sizeOf62 (lk rfl) (Rds.ow (m := 10) 0 rfl rfl) rfl) rfl ?_
            refine Ops.gs rfl rfl rfl (Stp.callOwn [6] rfl rfl Try.call24 (lks rfl) (fun E' le hat => set_e E' no18 g.O steps[g.k]!.e (hin.e.mono le) hm) ?_) rfl
            rintro _ _ ⟨rfl, rfl⟩
            refine Ops.gu rfl rfl rfl (Dtu.eql (lk rfl) (lk rfl)) rfl ?_
            refine Ops.u (Dtu.pickT (lk rfl) (lk rfl)) rfl ?_
            refine Ops.nil ?_
            refine Then.next ?_
            refine Body.condP (lk rfl) (fun _ => ?_) (fun hn => absurd (by first | omega | assumption | decide) hn)
            refine Body.seq ?_
            refine Body.region ?_
            refine Ops.u (Dtu.mv (lk rfl)) rfl ?_
            refine Ops.s (Stp.callOwn [0, 3] rfl rfl Try.call25 (lks rfl) (fun E' le hat => now_p E' no18 _ g.L hNc) ?_) rfl
            rintro _ _ ⟨na47, nb47, nc47, rfl, rfl⟩
            refine Ops.u (Dtu.mv (lk rfl)) rfl ?_
            refine Ops.u (Dtu.ext (lk rfl) rfl) rfl ?_
            refine Ops.u (Dtu.ext (lk rfl) rfl) rfl ?_
            refine Ops.s (Stp.alloc ty62 (fun b12 => ?_)) rfl
            refine Ops.u (Dtu.asg (lk rfl)) rfl ?_
            refine Ops.e (Stp.store 0 Try.sizeOf62 (lk rfl) (lk rfl) rfl rfl rfl rfl rfl rfl rfl ?_)
            refine Ops.nil ?_
            refine Then.next ?_
            refine Body.seq ?_
            rw [hO]
            refine Body.seq ?_
            refine Body.region ?_
            refine Ops.u (Dtu.mv (lk rfl)) rfl ?_
            refine Ops.u (Dtu.mv (lk rfl)) rfl ?_
            refine Ops.u (Dtu.lenS Try.underlying64 (Sl.osl 6 rfl) (lk rfl)) rfl ?_
            refine Ops.u (Dtu.cvt Try.underlying3 Try.underlying22 (lk rfl) (wu64 (by omega) (by omega))) rfl ?_
            refine Ops.u (Dtu.eql (lk rfl) (lk rfl)) rfl ?_
            refine Ops.nil ?_
            refine Then.next ?_
            refine Body.condP (lk rfl) (fun hy => absurd hy (by first | omega | assumption | decide)) (fun _ => ?_)
            refine Body.skip ?_
            refine Then.next ?_
            refine Body.seq ?_
            refine Body.region ?_
            refine Ops.u (Dtu.mv (lk rfl)) rfl ?_
            refine Ops.u (Dtu.mv (lk rfl)) rfl ?_
            refine Ops.u (Dtu.lenS Try.underlying64 (Sl.osl 6 rfl) (lk rfl)) rfl ?_
            refine Ops.u (Dtu.sub (lk rfl) (lk rfl) (w64 (by omega) (by omega))) rfl ?_
            refine Ops.u (Dtu.cvt Try.underlying3 Try.underlying22 (lk rfl) (wu64 (by omega) (by omega))) rfl ?_
            refine Ops.u (Dtu.neq (lk rfl) (lk rfl)) rfl ?_
            refine Ops.u (Dtu.mv (lk rfl)) rfl ?_
            refine Ops.decP 65 rfl (fun hy => absurd hy (by first | omega | assumption | decide)) (fun _ => ?_)
            refine Ops.gd rfl rfl rfl (Det.lda Try.isAgg62 Try.sizeOf62 (lk rfl) (Rds.ow (m := 10) 0 rfl rfl) rfl) rfl ?_
            refine Ops.gu rfl rfl rfl (Dtu.fld fa67_3 (lk rfl)) rfl ?_
            refine Ops.gd rfl rfl rfl (Det.lda Try.isAgg62 Try.sizeOf62 (lk rfl) (Rds.ow (m := 10) 3 rfl rfl) rfl) rfl ?_
            refine Ops.gs rfl rfl rfl (Stp.call rfl Try.call26 (lks rfl) (fun E' le hat => ssame_ok E' g.O.a.x steps[g.k]!.e.x (.slice na47 nb47 nc47) steps[g.k]!.e.s (Sl.at (at_many (by first | exact hat _ (.head _) | exact hat _ (.tail _ (.head _)) | exact hat _ (.tail _ (.tail _ (.head _))) | exact hat _ (.tail _ (.tail _ (.tail _ (.head _)))) | exact hat _ (.tail _ (.tail _ (.tail _ (.tail _ (.head _)))))) _ (.head _))) (Sl.mono hin.e.has le)) ?_) rfl
            rintro _ _ ⟨rfl, rfl⟩
            refine Ops.gu rfl rfl rfl (Dtu.notP (lk rfl)) rfl ?_
            refine Ops.u (Dtu.pickF (lk rfl) (lk rfl)) rfl ?_
            refine Ops.nil ?_
            refine Then.next ?_
            refine Body.condP (lk rfl) (fun hy => absurd hy (by first | omega | assumption | decide)) (fun _ => ?_)
            refine Body.skip ?_
            refine Joint.goL [3, 3, 3, 2, 2, 2, 1] (g.O, g.all, g.av, osl 127 4 (.slice na47 nb47 nc47) g.O.a.x.v.cells.length (g.O.a.x.v.cells.flatMap Cell.enc) :: g.L) rfl ⟨rfl, trivial⟩ rfl rfl ⟨ok.o, fun _ _ h => h, Nat.le_refl _, Nat.le_succ _, rfl, fun e he => (ok.s e he).mono fun A h => .tail _ h, fun A h => .tail _ h⟩
          · have hO : g.O.set steps[g.k]!.e.x = ⟨⟨g.O.a.n + 1, steps[g.k]!.e.x⟩, g.O.b, g.O.l, g.O.last, g.O.whn⟩ := by rw [Ot.set, if_pos hk, if_neg hq]
            have hq2 : steps[g.k]!.e.x.eqv steps[g.k]!.e.x := Stt.eqv_iff.2 rfl
            have hq3 : ¬ ¬ steps[g.k]!.e.x.eqv steps[g.k]!.e.x := fun h => h hq2
            have f1 : (g.O.set steps[g.k]!.e.x).a.n = g.O.a.n + 1 := by rw [hO]
            have f2 : (g.O.set steps[g.k]!.e.x).a.x = steps[g.k]!.e.x := by rw [hO]
            have f3 : (g.O.set steps[g.k]!.e.x).whn = g.O.whn := by rw [hO]
            have hNc : (g.O.set steps[g.k]!.e.x).a.x.v.cells.length ≤ 1000 := by rw [hO]; exact (hin.e.g hk).len
            have hs3 := ok.o.set hin.e.g
            have hup := setV_up (V := g.V) (O := g.O) (x := steps[g.k]!.e.x)
            rw [show setV g.V g.O steps[g.k]!.e.x = g.V ++ [steps[g.k]!.e.x] by rw [setV, if_pos hk, if_neg hq]] at hs3 hup
            refine Body.seq ?_
            refine Body.region ?_
            refine Ops.u (Dtu.fld fa67_0 (lk rfl)) rfl ?_
            refine Ops.d (Det.ld Try.isAgg4 (lk rfl) (Rd.ow 0 rfl rfl)) rfl ?_
            refine Ops.u (Dtu.mv (lk rfl)) rfl ?_
            refine Ops.dec 38 rfl (fun _ => ?_) (fun hn => absurd hn (by first | (rw [hs]; decide) | simp [hs]))
            refine Ops.gu rfl rfl rfl (Dtu.mv (lk rfl)) rfl ?_
            refine Ops.gu rfl rfl rfl (Dtu.fld fa67_3 (lk rfl)) rfl ?_
            refine Ops.gd rfl rfl rfl (Det.lda Try.isAgg62 Try.sizeOf62 (lk rfl) (Rds.ow (m := 10) 0 rfl rfl) rfl) rfl ?_
            refine Ops.gs rfl rfl rfl (Stp.callOwn [6] rfl rfl Try.call24 (lks rfl) (fun E' le hat => set_e E' no18 g.O steps[g.k]!.e (hin.e.mono le) hm) ?_) rfl
            rintro _ _ ⟨rfl, rfl⟩
            refine Ops.gu rfl rfl rfl (Dtu.eql (lk rfl) (lk rfl)) rfl ?_
            refine Ops.u (Dtu.pickT (lk rfl) (lk rfl)) rfl ?_
            refine Ops.nil ?_
            refine Then.next ?_
            refine Body.condP (lk rfl) (fun _ => ?_) (fun hn => absurd (by first | omega | assumption | decide) hn)
            refine Body.seq ?_
            refine Body.region ?_
            refine Ops.u (Dtu.mv (lk rfl)) rfl ?_
            refine Ops.s (Stp.callOwn [0, 3] rfl rfl Try.call25 (lks rfl) (fun E' le hat => now_p E' no18 _ g.L hNc) ?_) rfl
            rintro _ _ ⟨na47, nb47, nc47, rfl, rfl⟩
            refine Ops.u (Dtu.mv (lk rfl)) rfl ?_
            refine Ops.u (Dtu.ext (lk rfl) rfl) rfl ?_
            refine Ops.u (Dtu.ext (lk rfl) rfl) rfl ?_
            refine Ops.s (Stp.alloc ty62 (fun b12 => ?_)) rfl
            refine Ops.u (Dtu.asg (lk rfl)) rfl ?_
            refine Ops.e (Stp.store 0 Try.sizeOf62 (lk rfl) (lk rfl) rfl rfl rfl rfl rfl rfl rfl ?_)
            refine Ops.nil ?_
            refine Then.next ?_
            refine Body.seq ?_
            rw [f2]
            clear hO
            generalize g.O.set steps[g.k]!.e.x = O9 at *
            have hz : ∀ y : AS, (g.all ++ [y]).map AS.x = g.V ++ [y.x] := fun y => by rw [List.map_append]; rfl
            refine Body.seq ?_
            refine Body.region ?_
            refine Ops.u (Dtu.mv (lk rfl)) rfl ?_
            refine Ops.u (Dtu.mv (lk rfl)) rfl ?_
            refine Ops.u (Dtu.lenS Try.underlying64 (Sl.osl 6 rfl) (lk rfl)) rfl ?_
            refine Ops.u (Dtu.cvt Try.underlying3 Try.underlying22 (lk rfl) (wu64 (by omega) (by omega))) rfl ?_
            refine Ops.u (Dtu.eql (lk rfl) (lk rfl)) rfl ?_
            refine Ops.nil ?_
            refine Then.next ?_
            refine Body.condP (lk rfl) (fun _ => ?_) (fun hn => absurd (by first | omega | assumption | decide) hn)
            refine Body.region ?_
            refine Ops.u (Dtu.mv (lk rfl)) rfl ?_
            refine Ops.d (Det.lda Try.isAgg62 Try.sizeOf62 (lk rfl) (Rds.ow (m := 10) 0 rfl rfl) rfl) rfl ?_
            refine Ops.s (Stp.buildSliceO Try.underlying64 ty62 (by decide) (by decide) (lkp rfl) rfl rfl rfl (by decide) (fun v57 => ?_)) rfl
            refine Ops.s (Stp.append 7 Try.underlying64 ty62 rfl rfl (lk rfl) (lk rfl) (Sl.osl 0 rfl) (by first | rfl | exact all_map (fun _ => rfl) _ | exact all_flat (fun _ => rfl) _) (by omega) (by omega) (fun v58 => ?_)) rfl
            refine Ops.u (Dtu.asg (lk rfl)) rfl ?_
            refine Ops.nil ?_
            refine Then.next ?_
            refine Body.seq ?_
            refine Body.region ?_
            refine Ops.u (Dtu.mv (lk rfl)) rfl ?_
            refine Ops.u (Dtu.mv (lk rfl)) rfl ?_
            refine Ops.u (Dtu.lenS Try.underlying64 (Sl.osl 7 rfl) (lk rfl)) rfl ?_
            refine Ops.u (Dtu.sub (lk rfl) (lk rfl) (w64 (by omega) (by omega))) rfl ?_
            refine Ops.u (Dtu.cvt Try.underlying3 Try.underlying22 (lk rfl) (wu64 (by omega) (by omega))) rfl ?_
            refine Ops.u (Dtu.neq (lk rfl) (lk rfl)) rfl ?_
            refine Ops.u (Dtu.mv (lk rfl)) rfl ?_
            refine Ops.decP 65 rfl (fun hy => absurd hy (by first | omega | assumption | decide)) (fun _ => ?_)
            refine Ops.gd rfl rfl rfl (Det.lda Try.isAgg62 Try.sizeOf62 (lk rfl) (Rds.ow (m := 10) 1 rfl rfl) rfl) rfl ?_
            refine Ops.gu rfl rfl rfl (Dtu.fld fa67_3 (lk rfl)) rfl ?_
            refine Ops.gd rfl rfl rfl (Det.lda Try.isAgg62 Try.sizeOf62 (lk rfl) (Rds.ow (m := 10) 4 rfl rfl) rfl) rfl ?_
            refine Ops.gs rfl rfl rfl (Stp.call rfl Try.call26 (lks rfl) (fun E' le hat => ssame_ok E' steps[g.k]!.e.x steps[g.k]!.e.x (.slice na47 nb47 nc47) steps[g.k]!.e.s (Sl.at (at_many (by first | exact hat _ (.head _) | exact hat _ (.tail _ (.head _)) | exact hat _ (.tail _ (.tail _ (.head _))) | exact hat _ (.tail _ (.tail _ (.tail _ (.head _)))) | exact hat _ (.tail _ (.tail _ (.tail _ (.tail _ (.head _)))))) _ (.head _))) (Sl.mono hin.e.has le)) ?_) rfl
            rintro _ _ ⟨rfl, rfl⟩
            refine Ops.gu rfl rfl rfl (Dtu.notP (lk rfl)) rfl ?_
            refine Ops.u (Dtu.pickF (lk rfl) (lk rfl)) rfl ?_
            refine Ops.nil ?_
            refine Then.next ?_
            refine Body.condP (lk rfl) (fun hy => absurd hy (by first | omega | assumption | decide)) (fun _ => ?_)
            refine Body.skip ?_
            refine Joint.goL [4, 4, 4, 3, 3, 3, 2] (O9, g.all ++ [⟨steps[g.k]!.e.x, .slice na47 nb47 nc47⟩], v58, osl 127 4 (.slice na47 nb47 nc47) steps[g.k]!.e.x.v.cells.length (steps[g.k]!.e.x.v.cells.flatMap Cell.enc) :: g.L) rfl ⟨rfl, trivial⟩ rfl (by (try dsimp only); rw [List.length_append, List.flatMap_append]; rfl) ⟨by dsimp only; rw [hz]; exact hs3, by dsimp only; rw [hz]; exact hup, by dsimp only; omega, by dsimp only; omega, f3, fun e he => (List.mem_append.1 he).elim (fun h => (ok.s e h).mono fun A h => .tail _ h) (fun h => by rw [List.mem_singleton.1 h]; exact .head _), fun A h => .tail _ h⟩
        · have hk : steps[g.k]!.e.x.ok = false := by simpa using hk
          have hO : g.O.set steps[g.k]!.e.x = g.O := by rw [Ot.set, if_neg (by rw [hk]; simp)]
          have hk0 : (if steps[g.k]!.e.x.ok = true then (0 : Int) else 3) = 3 := if_neg (by rw [hk]; simp)
          have hs9 : OI g.V (g.O.set steps[g.k]!.e.x) := by rw [hO]; exact ok.o
          have f1 : (g.O.set steps[g.k]!.e.x).a.n = g.O.a.n := by rw [hO]
          have f3 : (g.O.set steps[g.k]!.e.x).whn = g.O.whn := by rw [hO]
          refine Body.seq ?_
          refine Body.region ?_
          refine Ops.u (Dtu.fld fa67_0 (lk rfl)) rfl ?_
          refine Ops.d (Det.ld Try.isAgg4 (lk rfl) (Rd.ow 0 rfl rfl)) rfl ?_
          refine Ops.u (Dtu.mv (lk rfl)) rfl ?_
          refine Ops.dec 38 rfl (fun _ => ?_) (fun hn => absurd hn (by first | (rw [hs]; decide) | simp [hs]))
          refine Ops.gu rfl rfl rfl (Dtu.mv (lk rfl)) rfl ?_
          refine Ops.gu rfl rfl rfl (Dtu.fld fa67_3 (lk rfl)) rfl ?_
          refine Ops.gd rfl rfl rfl (Det.lda Try.isAgg62 Try.sizeOf62 (lk rfl) (Rds.ow (m := 10) 0 rfl rfl) rfl) rfl ?_
          refine Ops.gs rfl rfl rfl (Stp.callOwn [6] rfl rfl Try.call24 (lks rfl) (fun E' le hat => set_e E' no18 g.O steps[g.k]!.e (hin.e.mono le) hm) ?_) rfl
          rintro _ _ ⟨rfl, rfl⟩
          refine Ops.gu rfl rfl rfl (Dtu.eql (lk rfl) (lk rfl)) rfl ?_
          refine Ops.u (Dtu.pickT (lk rfl) (lk rfl)) rfl ?_
          refine Ops.nil ?_
          refine Then.next ?_
          refine Body.condP (lk rfl) (fun hy => absurd hy (by first | omega | assumption | decide)) (fun _ => ?_)
          refine Body.skip ?_
          refine Joint.goL [1, 1, 1, 1, 1, 1, 0] (g.O.set steps[g.k]!.e.x, g.all, g.av, g.L) rfl ⟨rfl, trivial⟩ rfl rfl ⟨hs9, fun _ _ h => h, by dsimp only; omega, by dsimp only; omega, f3, ok.s, fun A h => h⟩
      · have hs : steps[g.k]!.set = false := by simpa using hs
        refine Body.seq ?_
        refine Body.region ?_
        refine Ops.u (Dtu.fld fa67_0 (lk rfl)) rfl ?_
        refine Ops.d (Det.ld Try.isAgg4 (lk rfl) (Rd.ow 0 rfl rfl)) rfl ?_
        refine Ops.u (Dtu.mv (lk rfl)) rfl ?_
        refine Ops.dec 38 rfl (fun hn => absurd hn (by first | (rw [hs]; decide) | simp [hs])) (fun _ => ?_)
        refine Ops.gn rfl rfl rfl rfl rfl ?_
        refine Ops.gn rfl rfl rfl rfl rfl ?_
        refine Ops.gn rfl rfl rfl rfl rfl ?_
        refine Ops.gn rfl rfl rfl rfl rfl ?_
        refine Ops.gn rfl rfl rfl rfl rfl ?_
        refine Ops.u (Dtu.pickF (lk rfl) (lk rfl)) rfl ?_
        refine Ops.nil ?_
        refine Then.next ?_
        refine Body.condF (lk rfl) ?_
        refine Body.skip ?_
        refine Joint.goL [0, 0, 0, 0, 0, 0, 0] (g.O, g.all, g.av, g.L) rfl ⟨rfl, trivial⟩ rfl rfl ⟨ok.o, fun _ _ h => h, Nat.le_refl _, Nat.le_succ _, rfl, ok.s, fun A h => h⟩
    rintro ⟨O1, all1, av1, L1⟩ u1 ⟨o1, hup, hn1, hn2, hw, hs1, hL1⟩
    dsimp only at o1 hup hn1 hn2 hw hs1 hL1 ⊢
    have g1 := o1.ga
    have g2 := o1.gb.1
    have gl := o1.ll
    have hw9 := ok.w
    skip
    refine Body.seqL (γ := Ot × List Chg × Value × List HProp) [0, 2, 3, 4, 5, 7, 8, 9, 10] rfl (fun y => [(6, y.2.2.1)]) (fun y => [(2, osl 73 3 y.2.2.1 y.2.1.length (y.2.1.flatMap Chg.enc)), (3, many y.2.2.2), (6, outP no18 y.1)]) (fun _ => rfl) (fun _ _ => rfl) (fun y => OI (all1.map AS.x) y.1 ∧ y.1.a = O1.a ∧ (0 ≤ y.1.whn ∧ y.1.whn ≤ 100) ∧ y.2.1.length ≤ g.k + 1 ∧ (∀ c ∈ y.2.1, c.Of (all1.map AS.x) y.2.2.2 ∧ c.n ≤ O1.a.n) ∧ ∀ A ∈ L1, A ∈ y.2.2.2) ?_ ?_
    · have hq := ok.y
      have hq0 := ok.lw
      by_cases hs : steps[g.k]!.send = true
      · refine Body.seq ?_
        refine Body.region ?_
        refine Ops.u (Dtu.fld fa67_1 (lk rfl)) rfl ?_
        refine Ops.d (Det.ld Try.isAgg4 (lk rfl) (Rd.ow 0 rfl rfl)) rfl ?_
        refine Ops.nil ?_
        refine Then.next ?_
        refine Body.cond (lk rfl) (fun _ => ?_) (fun hn => absurd hn (by first | (rw [hs]; decide) | simp [hs]))
        refine Body.seq ?_
        refine Body.region ?_
        refine Ops.u (Dtu.mv (lk rfl)) rfl ?_
        refine Ops.u (Dtu.mv (lk rfl)) rfl ?_
        refine Ops.s (Stp.callOwn [6, 3] rfl rfl Try.call27 (lks rfl) (fun E' le hat => make_p E' no18 O1 g.k L1 g1 g2 gl) ?_) rfl
        rintro _ _ ⟨nd77, ne77, ng77, rfl, rfl⟩
        refine Ops.u (Dtu.mv (lk rfl)) rfl ?_
        refine Ops.u (Dtu.ext (lk rfl) rfl) rfl ?_
        refine Ops.u (Dtu.ext (lk rfl) rfl) rfl ?_
        refine Ops.s (Stp.alloc ty73 (fun b13 => ?_)) rfl
        refine Ops.e (Stp.store 0 Try.sizeOf73 (lk rfl) (lk rfl) rfl rfl rfl rfl rfl rfl rfl ?_)
        refine Ops.u (Dtu.asg (lk rfl)) rfl ?_
        refine Ops.nil ?_
        refine Then.next ?_
        refine Body.seq ?_
        have hOI2 := o1.make g.k
        have hE1 : (O1.make g.k).a = O1.a := rfl
        have hE3 : (O1.make g.k).whn = g.k := rfl
        have hz1 : (g.way ++ [(⟨O1.b.n, O1.a.n, nd77, ne77, ng77⟩ : Chg)]).length ≤ g.k + 1 := by simp; omega
        have hz2 : ∀ c ∈ g.way ++ [(⟨O1.b.n, O1.a.n, nd77, ne77, ng77⟩ : Chg)], c.Of (all1.map AS.x) (osl 5 1 (.slice nd77 ne77 ng77) (sdifB O1.b.x O1.a.x).length ((sdifB O1.b.x O1.a.x).map (.int .u8)) :: L1) ∧ c.n ≤ O1.a.n := fun c hc => by
          rcases List.mem_append.1 hc with hc | hc
          · exact ⟨(hq c hc).1.mono hup fun A h => .tail _ (hL1 A h), by have := (hq c hc).2; omega⟩
          · rw [List.mem_singleton.1 hc]; exact ⟨⟨_, _, o1.b, o1.a, .head _⟩, Nat.le_refl _⟩
        generalize O1.make g.k = O2 at *
        refine Body.seq ?_
        refine Body.region ?_
        refine Ops.u (Dtu.mv (lk rfl)) rfl ?_
        refine Ops.u (Dtu.neq (lk rfl) (lk rfl)) rfl ?_
        refine Ops.nil ?_
        refine Then.next ?_
        refine Body.condP (lk rfl) (fun hy => absurd hy (by first | omega | assumption | decide)) (fun _ => ?_)
        refine Body.skip ?_
        refine Then.next ?_
        refine Body.region ?_
        refine Ops.u (Dtu.mv (lk rfl)) rfl ?_
        refine Ops.d (Det.lda Try.isAgg73 Try.sizeOf73 (lk rfl) (Rds.ow (m := 3) 0 rfl rfl) rfl) rfl ?_
        refine Ops.s (Stp.buildSliceO Try.underlying65 ty73 (by decide) (by decide) (lkp rfl) rfl rfl rfl (by decide) (fun v84 => ?_)) rfl
        refine Ops.s (Stp.append 6 Try.underlying65 ty73 rfl rfl (lk rfl) (lk rfl) (Sl.osl 0 rfl) (by first | rfl | exact all_map (fun _ => rfl) _ | exact all_flat (fun _ => rfl) _) (by omega) (by omega) (fun v85 => ?_)) rfl
        refine Ops.u (Dtu.asg (lk rfl)) rfl ?_
        refine Ops.nil ?_
        refine Joint.goL [4, 4, 4, 3, 3, 3, 2] (O2, g.way ++ [⟨O1.b.n, O1.a.n, nd77, ne77, ng77⟩], v85, osl 5 1 (.slice nd77 ne77 ng77) (sdifB O1.b.x O1.a.x).length ((sdifB O1.b.x O1.a.x).map (.int .u8)) :: L1) rfl ⟨rfl, trivial⟩ rfl (by (try dsimp only); rw [List.length_append, List.flatMap_append]; rfl) ⟨hOI2, hE1, ⟨by dsimp only; omega, by dsimp only; omega⟩, hz1, hz2, fun A h => .tail _ h⟩
      · have hs : steps[g.k]!.send = false := by simpa using hs
        refine Body.seq ?_
        refine Body.region ?_
        refine Ops.u (Dtu.fld fa67_1 (lk rfl)) rfl ?_
        refine Ops.d (Det.ld Try.isAgg4 (lk rfl) (Rd.ow 0 rfl rfl)) rfl ?_
        refine Ops.nil ?_
        refine Then.next ?_
        refine Body.cond (lk rfl) (fun hn => absurd hn (by first | (rw [hs]; decide) | simp [hs])) (fun _ => ?_)
        refine Body.skip ?_
        refine Joint.goL [0, 0, 0, 0, 0, 0, 0] (O1, g.way, g.wv, L1) rfl ⟨rfl, trivial⟩ rfl rfl ⟨o1, rfl, ⟨by dsimp only; omega, by dsimp only; omega⟩, Nat.le_succ_of_le hq0, fun c hc => ⟨(hq c hc).1.mono hup hL1, by have := (hq c hc).2; omega⟩, fun A h => h⟩
    rintro ⟨O2, way2, wv2, L2⟩ u2 ⟨o2, ha2, ⟨w2, w3⟩, hy1, hy2, hL2⟩
    dsimp only at o2 ha2 w2 w3 hy1 hy2 hL2 ⊢
    have hI2 := hup _ _ ok.i
    have hOm := ok.m
    have hs2 : ∀ e ∈ all1, e.In L2 := fun e he => (hs1 e he).mono hL2
    skip
    refine Body.seqL (γ := Ov) [0, 2, 3, 4, 5, 6, 7, 8, 9, 10] rfl (fun y => []) (fun y => [(5, inP ni19 y)]) (fun _ => rfl) (fun _ _ => rfl) (fun y => (all1.map AS.x)[y.n]? = some y.x ∧ g.I.n ≤ y.n ∧ y.n ≤ O2.a.n) ?_ ?_
    · by_cases hw0 : 0 < way2.length
      · have c0 := hin.c0
        have c1 := hin.c1
        have hrem := tmod_nat hin.c0 way2.length
        have hjx := Nat.mod_lt steps[g.k]!.comes.toNat hw0
        generalize steps[g.k]!.comes.toNat % way2.length = jx at *
        have hmx : way2[jx]! ∈ way2 := by rw [getElem!_pos way2 jx hjx]; exact List.getElem_mem _
        have hcx := (hy2 _ hmx).1
        have hcn := (hy2 _ hmx).2
        have hti := takeI_in hI2 hcx
        have htm : (takeI (all1.map AS.x) g.I way2[jx]!).n ≤ O2.a.n := by
          rw [ha2]
          unfold takeI
          repeat' split
          all_goals first | omega | (dsimp only; omega)
        refine Body.seq ?_
        refine Body.region ?_
        refine Ops.u (Dtu.mv (lk rfl)) rfl ?_
        refine Ops.u (Dtu.lenS Try.underlying65 (Sl.osl 2 rfl) (lk rfl)) rfl ?_
        refine Ops.u (Dtu.gtr (lk rfl) (lk rfl)) rfl ?_
        refine Ops.nil ?_
        refine Then.next ?_
        refine Body.condP (lk rfl) (fun _ => ?_) (fun hn => absurd (by first | omega | assumption | decide) hn)
        refine Body.region ?_
        refine Ops.u (Dtu.mv (lk rfl)) rfl ?_
        refine Ops.u (Dtu.mv (lk rfl)) rfl ?_
        refine Ops.u (Dtu.fld fa67_4 (lk rfl)) rfl ?_
        refine Ops.d (Det.ld Try.isAgg5 (lk rfl) (Rd.ow 0 rfl rfl)) rfl ?_
        refine Ops.u (Dtu.cvt Try.underlying5 Try.underlying3 (lk rfl) (w64 (by omega) (by omega))) rfl ?_
        refine Ops.u (Dtu.mv (lk rfl)) rfl ?_
        refine Ops.u (Dtu.lenS Try.underlying65 (Sl.osl 2 rfl) (lk rfl)) rfl ?_
        refine Ops.u (Dtu.rem (lk rfl) (lk rfl) (by first | decide | omega) (by with_reducible assumption)) rfl ?_
        refine Ops.u (Dtu.ix (i := (jx)) Try.underlying65 Try.sizeOf73 (Sl.osl 2 rfl) (lk rfl) (lk rfl) (by omega) (by omega)) rfl ?_
        refine Ops.d (Det.lda Try.isAgg73 Try.sizeOf73 (lk rfl) (Rds.sl (Sl.osl 2 rfl) (gf (sz := 3) (fun _ => rfl) (by omega))) rfl) rfl ?_
        refine Ops.s (Stp.callOwn [5, 3] rfl rfl Try.call28 (lks rfl) (fun E' le hat => take_p E' ni19 g.I way2[jx]! (all1.map AS.x) L2 o2.vv hI2 hcx) ?_) rfl
        rintro _ _ ⟨rfl, rfl⟩
        refine Ops.nil ?_
        refine Joint.goL [2, 2, 2, 1, 1, 0, 0] (takeI (all1.map AS.x) g.I way2[jx]!) rfl trivial rfl rfl ⟨hti.1, hti.2, htm⟩
      · refine Body.seq ?_
        refine Body.region ?_
        refine Ops.u (Dtu.mv (lk rfl)) rfl ?_
        refine Ops.u (Dtu.lenS Try.underlying65 (Sl.osl 2 rfl) (lk rfl)) rfl ?_
        refine Ops.u (Dtu.gtr (lk rfl) (lk rfl)) rfl ?_
        refine Ops.nil ?_
        refine Then.next ?_
        refine Body.condP (lk rfl) (fun hy => absurd hy (by first | omega | assumption | decide)) (fun _ => ?_)
        refine Body.skip ?_
        refine Joint.goL [0, 0, 0, 0, 0, 0, 0] g.I rfl trivial rfl rfl ⟨hI2, Nat.le_refl _, by rw [ha2]; omega⟩
    rintro I2 u3 ⟨hi1, hi2, hi3⟩
    have hAl : all1.length = O2.a.n + 1 := by have := o2.len; rwa [List.length_map] at this
    have hAn : O2.a.n = O1.a.n := by rw [ha2]
    have hIl : I2.n < all1.length := by omega
    have hmA : all1[I2.n]! ∈ all1 := by rw [getElem!_pos all1 I2.n hIl]; exact List.getElem_mem _
    have hIc : I2.x.v.cells.length ≤ 1000 := (o2.g _ (List.mem_of_getElem? hi1)).len
    have hla := ok.la
    have hXe : I2.x = all1[I2.n]!.x := by
      rw [List.getElem?_map, List.getElem?_eq_getElem hIl] at hi1
      rw [getElem!_pos all1 I2.n hIl]
      exact (Option.some.inj hi1).symm
    have hq2 : I2.x.eqv all1[I2.n]!.x := Stt.eqv_iff.2 hXe
    have hq3 : ¬ ¬ I2.x.eqv all1[I2.n]!.x := fun h => h hq2
    have hzb := ok.z
    have hlb := ok.lb
    refine Body.seq ?_
    refine Body.region ?_
    refine Ops.u (Dtu.mv (lk rfl)) rfl ?_
    refine Ops.s (Stp.callOwn [5] rfl rfl Try.call29 (lks rfl) (fun E' le hat => inow_s E' ni19 I2 hIc) ?_) rfl
    rintro _ _ ⟨na102, nb102, nc102, rfl, rfl⟩
    refine Ops.u (Dtu.mv (lk rfl)) rfl ?_
    refine Ops.u (Dtu.ext (lk rfl) rfl) rfl ?_
    refine Ops.u (Dtu.ext (lk rfl) rfl) rfl ?_
    refine Ops.s (Stp.alloc ty62 (fun b16 => ?_)) rfl
    refine Ops.u (Dtu.asg (lk rfl)) rfl ?_
    refine Ops.e (Stp.store 0 Try.sizeOf62 (lk rfl) (lk rfl) rfl rfl rfl rfl rfl rfl rfl ?_)
    refine Ops.nil ?_
    refine Then.next ?_
    refine Body.seq ?_
    refine Body.seq ?_
    refine Body.draw mixed ?_
    refine AB.u 0 rfl (by decide +kernel) (Dtu.mv (lk rfl)) rfl ?_
    refine AB.u 1 rfl (by decide +kernel) (Dtu.mv (lk rfl)) rfl ?_
    refine AB.u 2 rfl (by decide +kernel) (Dtu.lss (lk rfl) (lk rfl)) rfl ?_
    refine AB.u 3 rfl (by decide +kernel) (Dtu.mv (lk rfl)) rfl ?_
    refine AB.decP 108 rfl (fun hy => absurd hy (by first | omega | assumption | decide)) (fun _ => ?_)
    refine AB.gu 4 rfl (by decide +kernel) rfl rfl rfl (Dtu.mv (lk rfl)) rfl ?_
    refine AB.gu 5 rfl (by decide +kernel) rfl rfl rfl (Dtu.mv (lk rfl)) rfl ?_
    refine AB.gu 6 rfl (by decide +kernel) rfl rfl rfl (Dtu.lenS Try.underlying64 (Sl.osl 7 rfl) (lk rfl)) rfl ?_
    refine AB.gu 7 rfl (by decide +kernel) rfl rfl rfl (Dtu.cvt Try.underlying3 Try.underlying22 (lk rfl) (wu64 (by omega) (by omega))) rfl ?_
    refine AB.gu 8 rfl (by decide +kernel) rfl rfl rfl (Dtu.geq (lk rfl) (lk rfl)) rfl ?_
    refine AB.u 9 rfl (by decide +kernel) (Dtu.pickF (lk rfl) (lk rfl)) rfl ?_
    refine AB.u 10 rfl (by decide +kernel) (Dtu.mv (lk rfl)) rfl ?_
    refine AB.decP 115 rfl (fun hy => absurd hy (by first | omega | assumption | decide)) (fun _ => ?_)
    refine AB.gd 11 rfl (by decide +kernel) rfl rfl rfl rfl (Det.lda Try.isAgg62 Try.sizeOf62 (lk rfl) (Rds.ow (m := 10) 0 rfl rfl) rfl) rfl ?_
    refine AB.gu 12 rfl (by decide +kernel) rfl rfl rfl (Dtu.mv (lk rfl)) rfl ?_
    refine AB.gu 13 rfl (by decide +kernel) rfl rfl rfl (Dtu.mv (lk rfl)) rfl ?_
    refine AB.gu 14 rfl (by decide +kernel) rfl rfl rfl (Dtu.ix (i := (I2.n)) Try.underlying64 Try.sizeOf62 (Sl.osl 7 rfl) (lk rfl) (lk rfl) (by omega) (by omega)) rfl ?_
    refine AB.gd 15 rfl (by decide +kernel) rfl rfl rfl rfl (Det.lda Try.isAgg62 Try.sizeOf62 (lk rfl) (Rds.sl (Sl.osl 7 rfl) (gf (sz := 10) (fun _ => rfl) (by omega))) rfl) rfl ?_
    refine AB.gs 16 rfl (by decide +kernel) (by decide +kernel) rfl rfl rfl (Stp.call rfl Try.call26 (lks rfl) (fun E' le hat => ssame_ok E' I2.x all1[I2.n]!.x (.slice na102 nb102 nc102) all1[I2.n]!.s (by first | exact Sl.hatI hat 0 rfl | exact Sl.hatI hat 1 rfl | exact Sl.hatI hat 2 rfl | exact Sl.hatI hat 3 rfl | exact Sl.hatI hat 4 rfl | exact Sl.hatI hat 5 rfl | exact Sl.hatI hat 6 rfl | exact Sl.hatI hat 7 rfl | exact Sl.hatI hat 8 rfl) (Sl.at (at_many (by first | exact hat _ (.head _) | exact hat _ (.tail _ (.head _)) | exact hat _ (.tail _ (.tail _ (.head _))) | exact hat _ (.tail _ (.tail _ (.tail _ (.head _)))) | exact hat _ (.tail _ (.tail _ (.tail _ (.tail _ (.head _))))) | exact hat _ (.tail _ (.tail _ (.tail _ (.tail _ (.tail _ (.head _)))))) | exact hat _ (.tail _ (.tail _ (.tail _ (.tail _ (.tail _ (.tail _ (.head _)))))))) _ (hs2 _ hmA)))) ?_) rfl
    rintro _ _ ⟨rfl, rfl⟩
    refine AB.gu 17 rfl (by decide +kernel) rfl rfl rfl (Dtu.notP (lk rfl)) rfl ?_
    refine AB.u 18 rfl (by decide +kernel) (Dtu.pickF (lk rfl) (lk rfl)) rfl ?_
    refine AB.done (by decide +kernel) ?_
    refine Then.next ?_
    refine Body.condP (lk rfl) (fun hy => absurd hy (by first | omega | assumption | decide)) (fun _ => ?_)
    refine Body.skip ?_
    refine Then.next ?_
    refine Body.seq ?_
    refine Body.region ?_
    refine Ops.u (Dtu.mv (lk rfl)) rfl ?_
    refine Ops.u (Dtu.asg (lk rfl)) rfl ?_
    refine Ops.nil ?_
    refine Then.next ?_
    refine Body.seqL (γ := List Nat × Value) [0, 2, 3, 4, 5, 6, 8, 9, 10, 15, 16] rfl (fun y => [(7, y.2)]) (fun y => [(4, osl 22 1 y.2 y.1.length (U64s y.1))]) (fun _ => rfl) (fun _ _ => rfl) (fun y => y.1.length ≤ g.k + 1 ∧ ∀ n ∈ y.1, n ≤ O2.a.n) ?_ ?_
    · by_cases hs : steps[g.k]!.back = true
      · have hbz : ∀ n ∈ g.back ++ [I2.n], n ≤ O2.a.n := fun n hn => by
          rcases List.mem_append.1 hn with hn | hn
          · have := hzb n hn; omega
          · rw [List.mem_singleton.1 hn]; exact hi3
        have hbl : (g.back ++ [I2.n]).length ≤ g.k + 1 := by simp; omega
        refine Body.seq ?_
        refine Body.region ?_
        refine Ops.u (Dtu.fld fa67_2 (lk rfl)) rfl ?_
        refine Ops.d (Det.ld Try.isAgg4 (lk rfl) (Rd.ow 3 rfl rfl)) rfl ?_
        refine Ops.nil ?_
        refine Then.next ?_
        refine Body.cond (lk rfl) (fun _ => ?_) (fun hn => absurd hn (by first | (rw [hs]; decide) | simp [hs]))
        refine Body.region ?_
        refine Ops.u (Dtu.mv (lk rfl)) rfl ?_
        refine Ops.u (Dtu.mv (lk rfl)) rfl ?_
        refine Ops.s (Stp.buildSliceO Try.underlying38 ty22 (by decide) (by decide) (lkp rfl) rfl rfl rfl (by decide) (fun v129 => ?_)) rfl
        refine Ops.s (Stp.append 5 Try.underlying38 ty22 rfl rfl (lk rfl) (lk rfl) (Sl.osl 0 rfl) (by first | rfl | exact all_map (fun _ => rfl) _ | exact all_flat (fun _ => rfl) _) (by omega) (by omega) (fun v130 => ?_)) rfl
        refine Ops.u (Dtu.asg (lk rfl)) rfl ?_
        refine Ops.nil ?_
        refine Joint.goL [1, 1, 1, 1, 1, 1, 1, 1, 1] (g.back ++ [I2.n], v130) rfl ⟨rfl, trivial⟩ rfl (by (try dsimp only); rw [List.length_append, U64s_snoc]; rfl) ⟨hbl, hbz⟩
      · have hs : steps[g.k]!.back = false := by simpa using hs
        refine Body.seq ?_
        refine Body.region ?_
        refine Ops.u (Dtu.fld fa67_2 (lk rfl)) rfl ?_
        refine Ops.d (Det.ld Try.isAgg4 (lk rfl) (Rd.ow 3 rfl rfl)) rfl ?_
        refine Ops.nil ?_
        refine Then.next ?_
        refine Body.cond (lk rfl) (fun hn => absurd hn (by first | (rw [hs]; decide) | simp [hs])) (fun _ => ?_)
        refine Body.skip ?_
        refine Joint.goL [0, 0, 0, 0, 0, 0, 0, 0, 0] (g.back, g.bv) rfl ⟨rfl, trivial⟩ rfl rfl ⟨Nat.le_succ_of_le hlb, fun n hn => by have := hzb n hn; omega⟩
    rintro ⟨back2, bv2⟩ u4 ⟨hbl, hbz⟩
    dsimp only at hbl hbz ⊢
    have gl2 := o2.ll
    by_cases hb0 : 0 < back2.length
    · have a0 := hin.a0
      have a1 := hin.a1
      have hrem := tmod_nat hin.a0 back2.length
      have hjx := Nat.mod_lt steps[g.k]!.acks.toNat hb0
      generalize steps[g.k]!.acks.toNat % back2.length = jb at *
      have hmx : back2[jb]! ∈ back2 := by rw [getElem!_pos back2 jb hjx]; exact List.getElem_mem _
      have hbx : (U64s back2)[jb * 1]? = some (.int .u64 (back2[jb]! : Nat)) := by
        rw [Nat.mul_one, U64s, List.getElem?_map, List.getElem?_eq_getElem hjx, getElem!_pos back2 jb hjx]; rfl
      have hbn := hbz _ hmx
      obtain ⟨v1, v2, v3⟩ := ack_w O2 back2[jb]!
      have hoA := o2.ack back2[jb]!
      have hA3 : (O2.ack back2[jb]!).a.n = O2.a.n := by rw [v2]
      have hE : O2.ackE back2[jb]! = if back2[jb]! < O2.b.n then 23 else 0 := by
        unfold Ot.ackE
        by_cases h : back2[jb]! < O2.b.n
        · rw [if_pos h, if_pos h]
        · rw [if_neg h, if_neg h, if_neg (by omega)]
      have fin : WG.Ok ⟨g.k + 1, O2.ack back2[jb]!, I2, all1, av1, way2, wv2, back2, bv2, I2.n, L2⟩ := ⟨hoA, hi1, by dsimp only; omega, by dsimp only; omega, hs2, hy1, hbl, Nat.le_refl _, ⟨by dsimp only; omega, by dsimp only; omega⟩, fun c hc => ⟨(hy2 c hc).1, by have := (hy2 c hc).2; dsimp only; omega⟩, fun n hn => by have := hbz n hn; dsimp only; omega⟩
      clear hoA hi1 hs2 hy1 hbl hy2 hbz o1 hup hs1 hL1 hL2 hI2 o2 ok hzb hmA hXe hq2 hq3 v1 v2 v3 hmx hla hAl hIl hAn g1 g2 gl hw9 hw hn1 hn2 hOm hVl ha hm hA3 hi2 hi3 hIc w2 w3 hlb
      by_cases hlow : back2[jb]! < O2.b.n
      · have hE2 : O2.ackE back2[jb]! = 23 := by rw [hE, if_pos hlow]
        refine Body.seq ?_
        refine Body.region ?_
        refine Ops.u (Dtu.mv (lk rfl)) rfl ?_
        refine Ops.u (Dtu.lenS Try.underlying38 (Sl.osl 4 rfl) (lk rfl)) rfl ?_
        refine Ops.u (Dtu.gtr (lk rfl) (lk rfl)) rfl ?_
        refine Ops.nil ?_
        refine Then.next ?_
        refine Body.condP (lk rfl) (fun _ => ?_) (fun hn => absurd (by first | omega | assumption | decide) hn)
        refine Body.seq ?_
        refine Body.region ?_
        refine Ops.u (Dtu.mv (lk rfl)) rfl ?_
        refine Ops.u (Dtu.mv (lk rfl)) rfl ?_
        refine Ops.u (Dtu.fld fa67_5 (lk rfl)) rfl ?_
        refine Ops.d (Det.ld Try.isAgg5 (lk rfl) (Rd.ow 3 rfl rfl)) rfl ?_
        refine Ops.u (Dtu.cvt Try.underlying5 Try.underlying3 (lk rfl) (w64 (by omega) (by omega))) rfl ?_
        refine Ops.u (Dtu.mv (lk rfl)) rfl ?_
        refine Ops.u (Dtu.lenS Try.underlying38 (Sl.osl 4 rfl) (lk rfl)) rfl ?_
        refine Ops.u (Dtu.rem (lk rfl) (lk rfl) (by first | decide | omega) (by with_reducible assumption)) rfl ?_
        refine Ops.u (Dtu.ix (i := (jb)) Try.underlying38 Try.sizeOf22 (Sl.osl 4 rfl) (lk rfl) (lk rfl) (by omega) (by omega)) rfl ?_
        refine Ops.d (Det.ld Try.isAgg22 (lk rfl) (Rd.sl (Sl.osl 4 rfl) (by with_reducible assumption))) rfl ?_
        refine Ops.s (Stp.callOwn [8] rfl rfl Try.call30 (lks rfl) (fun E' le hat => ack_s E' no18 O2 back2[jb]! gl2) ?_) rfl
        rintro _ _ ⟨rfl, rfl⟩
        refine Ops.u (Dtu.asg (lk rfl)) rfl ?_
        refine Ops.nil ?_
        refine Then.next ?_
        refine Body.seq ?_
        refine Body.region ?_
        refine Ops.u (Dtu.mv (lk rfl)) rfl ?_
        refine Ops.u (Dtu.neq (lk rfl) (lk rfl)) rfl ?_
        refine Ops.u (Dtu.mv (lk rfl)) rfl ?_
        refine Ops.decP 147 rfl (fun _ => ?_) (fun hn => absurd (by first | omega | assumption | decide) hn)
        refine Ops.gu rfl rfl rfl (Dtu.mv (lk rfl)) rfl ?_
        refine Ops.gu rfl rfl rfl (Dtu.neq (lk rfl) (lk rfl)) rfl ?_
        refine Ops.u (Dtu.pickT (lk rfl) (lk rfl)) rfl ?_
        refine Ops.nil ?_
        refine Then.next ?_
        refine Body.condP (lk rfl) (fun hy => absurd hy (by first | omega | assumption | decide)) (fun _ => ?_)
        refine Body.skip ?_
        refine Blk.norm ?_
        refine Then.next ?_
        refine Body.region ?_
        refine Ops.u (Dtu.mv (lk rfl)) rfl ?_
        refine Ops.u (Dtu.add (lk rfl) (lk rfl) (w64 (by omega) (by omega))) rfl ?_
        refine Ops.u (Dtu.asg (lk rfl)) rfl ?_
        refine Ops.nil ?_
        refine Round.goL [5, 5, 5, 5, 2, 0] ⟨g.k + 1, O2.ack back2[jb]!, I2, all1, av1, way2, wv2, back2, bv2, I2.n, L2⟩ rfl ⟨rfl, rfl, rfl, rfl, rfl, trivial⟩ rfl rfl ⟨⟨hlt1, hlt2⟩, fin⟩ (by dsimp only; omega)
      · have hE2 : O2.ackE back2[jb]! = 0 := by rw [hE, if_neg hlow]
        refine Body.seq ?_
        refine Body.region ?_
        refine Ops.u (Dtu.mv (lk rfl)) rfl ?_
        refine Ops.u (Dtu.lenS Try.underlying38 (Sl.osl 4 rfl) (lk rfl)) rfl ?_
        refine Ops.u (Dtu.gtr (lk rfl) (lk rfl)) rfl ?_
        refine Ops.nil ?_
        refine Then.next ?_
        refine Body.condP (lk rfl) (fun _ => ?_) (fun hn => absurd (by first | omega | assumption | decide) hn)
        refine Body.seq ?_
        refine Body.region ?_
        refine Ops.u (Dtu.mv (lk rfl)) rfl ?_
        refine Ops.u (Dtu.mv (lk rfl)) rfl ?_
        refine Ops.u (Dtu.fld fa67_5 (lk rfl)) rfl ?_
        refine Ops.d (Det.ld Try.isAgg5 (lk rfl) (Rd.ow 3 rfl rfl)) rfl ?_
        refine Ops.u (Dtu.cvt Try.underlying5 Try.underlying3 (lk rfl) (w64 (by omega) (by omega))) rfl ?_
        refine Ops.u (Dtu.mv (lk rfl)) rfl ?_
        refine Ops.u (Dtu.lenS Try.underlying38 (Sl.osl 4 rfl) (lk rfl)) rfl ?_
        refine Ops.u (Dtu.rem (lk rfl) (lk rfl) (by first | decide | omega) (by with_reducible assumption)) rfl ?_
        refine Ops.u (Dtu.ix (i := (jb)) Try.underlying38 Try.sizeOf22 (Sl.osl 4 rfl) (lk rfl) (lk rfl) (by omega) (by omega)) rfl ?_
        refine Ops.d (Det.ld Try.isAgg22 (lk rfl) (Rd.sl (Sl.osl 4 rfl) (by with_reducible assumption))) rfl ?_
        refine Ops.s (Stp.callOwn [8] rfl rfl Try.call30 (lks rfl) (fun E' le hat => ack_s E' no18 O2 back2[jb]! gl2) ?_) rfl
        rintro _ _ ⟨rfl, rfl⟩
        refine Ops.u (Dtu.asg (lk rfl)) rfl ?_
        refine Ops.nil ?_
        refine Then.next ?_
        refine Body.seq ?_
        refine Body.region ?_
        refine Ops.u (Dtu.mv (lk rfl)) rfl ?_
        refine Ops.u (Dtu.neq (lk rfl) (lk rfl)) rfl ?_
        refine Ops.u (Dtu.mv (lk rfl)) rfl ?_
        refine Ops.decP 147 rfl (fun hy => absurd hy (by first | omega | assumption | decide)) (fun _ => ?_)
        refine Ops.gn rfl rfl rfl rfl rfl ?_
        refine Ops.gn rfl rfl rfl rfl rfl ?_
        refine Ops.u (Dtu.pickF (lk rfl) (lk rfl)) rfl ?_
        refine Ops.nil ?_
        refine Then.next ?_
        refine Body.condF (lk rfl) ?_
        refine Body.skip ?_
        refine Blk.norm ?_
        refine Then.next ?_
        refine Body.region ?_
        refine Ops.u (Dtu.mv (lk rfl)) rfl ?_
        refine Ops.u (Dtu.add (lk rfl) (lk rfl) (w64 (by omega) (by omega))) rfl ?_
        refine Ops.u (Dtu.asg (lk rfl)) rfl ?_
        refine Ops.nil ?_
        refine Round.goL [5, 5, 5, 5, 2, 0] ⟨g.k + 1, O2.ack back2[jb]!, I2, all1, av1, way2, wv2, back2, bv2, I2.n, L2⟩ rfl ⟨rfl, rfl, rfl, rfl, rfl, trivial⟩ rfl rfl ⟨⟨hlt1, hlt2⟩, fin⟩ (by dsimp only; omega)
    · refine Body.seq ?_
      refine Body.region ?_
      refine Ops.u (Dtu.mv (lk rfl)) rfl ?_
      refine Ops.u (Dtu.lenS Try.underlying38 (Sl.osl 4 rfl) (lk rfl)) rfl ?_
      refine Ops.u (Dtu.gtr (lk rfl) (lk rfl)) rfl ?_
      refine Ops.nil ?_
      refine Then.next ?_
      refine Body.condP (lk rfl) (fun hy => absurd hy (by first | omega | assumption | decide)) (fun _ => ?_)
      refine Body.skip ?_
      refine Blk.norm ?_
      refine Then.next ?_
      refine Body.region ?_
      refine Ops.u (Dtu.mv (lk rfl)) rfl ?_
      refine Ops.u (Dtu.add (lk rfl) (lk rfl) (w64 (by omega) (by omega))) rfl ?_
      refine Ops.u (Dtu.asg (lk rfl)) rfl ?_
      refine Ops.nil ?_
      refine Round.goL [4, 4, 4, 4, 1, 3] ⟨g.k + 1, O2, I2, all1, av1, way2, wv2, back2, bv2, I2.n, L2⟩ rfl ⟨rfl, rfl, rfl, rfl, rfl, trivial⟩ rfl rfl ⟨⟨hlt1, hlt2⟩, o2, hi1, hi3, by dsimp only; omega, hs2, hy1, hbl, Nat.le_refl _, ⟨w2, w3⟩, fun c hc => ⟨(hy2 c hc).1, by have := (hy2 c hc).2; dsimp only; omega⟩, hbz⟩ (by dsimp only; omega)
  · refine Body.seq ?_
    refine Body.seq ?_
    refine Body.region ?_
    refine Ops.u (Dtu.mv (lk rfl)) rfl ?_
    refine Ops.u (Dtu.mv (lk rfl)) rfl ?_
    refine Ops.u (Dtu.lenS Try.underlying53 (Sl.up hv) (lk rfl)) rfl ?_
    refine Ops.u (Dtu.lss (lk rfl) (lk rfl)) rfl ?_
    refine Ops.u (Dtu.mv (lk rfl)) rfl ?_
    refine Ops.decP 26 rfl (fun c26 => ?_) (fun c26 => ?_)
    · refine Ops.gu rfl rfl rfl (Dtu.mv (lk rfl)) rfl ?_
      refine Ops.gu rfl rfl rfl (Dtu.lss (lk rfl) (lk rfl)) rfl ?_
      refine Ops.u (Dtu.pickT (lk rfl) (lk rfl)) rfl ?_
      refine Ops.nil ?_
      refine Then.next ?_
      refine Body.condP (lk rfl) (fun hy => absurd hy (by first | omega | assumption | decide)) (fun _ => ?_)
      refine Body.exit ?_
      refine Then.exit ?_
      refine Round.exit ?_
      refine Blk.here ?_
      refine Then.next ?_
      refine Body.seq ?_
      refine Body.region ?_
      refine Ops.s (Stp.call rfl Try.call31 (lks rfl) (fun E' le hat => alive29_ok E') ?_) rfl
      rintro _ _ ⟨rfl, rfl⟩
      refine Ops.u (Dtu.asg (lk rfl)) rfl ?_
      refine Ops.nil ?_
      refine Then.next ?_
      refine Body.ret ?_
      exact ⟨.inr rfl, _, pk [] rfl, rfl, rfl⟩
    · refine Ops.gn rfl rfl rfl rfl rfl ?_
      refine Ops.gn rfl rfl rfl rfl rfl ?_
      refine Ops.u (Dtu.pickF (lk rfl) (lk rfl)) rfl ?_
      refine Ops.nil ?_
      refine Then.next ?_
      refine Body.condF (lk rfl) ?_
      refine Body.exit ?_
      refine Then.exit ?_
      refine Round.exit ?_
      refine Blk.here ?_
      refine Then.next ?_
      refine Body.seq ?_
      refine Body.region ?_
      refine Ops.s (Stp.call rfl Try.call31 (lks rfl) (fun E' le hat => alive29_ok E') ?_) rfl
      rintro _ _ ⟨rfl, rfl⟩
      refine Ops.u (Dtu.asg (lk rfl)) rfl ?_
      refine Ops.nil ?_
      refine Then.next ?_
      refine Body.ret ?_
      exact ⟨.inr rfl, _, pk [] rfl, rfl, rfl⟩
end Go.Proofs.Ytagcpamchgpgiaa
end
section
/- 'Rows.SyncVersionsSaid': longlinelaw29.SyncVersions returns true, whatever steps come in; they read as they did. -/
namespace Go.Proofs.Ytagcpamchgpgiaa.syncVersions
open Go.Sx Go.ChangeShapes Go.WideShapes Go.ChangeAt Go.RowKit
set_option linter.unusedVariables false

theorem own : ownKnob Try.prog.godebug = none := by kernel_rfl
theorem laidOut : laidOutB Try.prog = true := by kernel_rfl
theorem pars : (Try.f6.params.toList.all fun t => Try.prog.readableRec t && decide (t < Try.prog.types.size)) = true := by kernel_rfl

set_option maxRecDepth 100000 in
theorem lifted (os : Os) (started : os.Started) (H : Type) (enc : TypeId × Value → H) :
    ReturnsInHanded {} Try.checked os 6 .any (Rows.syncVersionsSpec.pre6 enc Try.prog Try.f6 Rows.syncVersionsRow.domain false) (Rows.syncVersionsSpec.post enc Try.prog Try.f6 false true false false) := by
  refine returnsInHanded_of_change (C := Try.checked) own started (by kernel_rfl) Try.func6
    (ChangeSpec.witness6 (enc := enc) (C := Try.checked) false ⟨#[], #[.slice none 0 0], []⟩ 8 (by kernel_rfl) (by kernel_rfl) (by kernel_rfl) (by kernel_rfl)) ?_
  intro W base args ds gs before hval0 hW hcnd _
  have hval : ∀ (j : Nat) t v, Try.f6.params[j]? = some t → args[j]? = some v → Value.okWide Try.prog W .any base t v := hval0
  have hW' := hW
  obtain ⟨p, q, hA0, hV, rfl, hfz, hnd⟩ := hW
  have hA : DataW.TrodAll enc Try.prog W 0 (fun _ => true) true Try.f6.params.toList args.toList ds p := hA0
  rw [Try.params6] at hA hval
  obtain ⟨v0, vs0, d0, ds0, p0, q0, hargs, rfl, rfl, h0, r0⟩ := trodAll_cons hA
  obtain ⟨rfl, rfl, rfl⟩ := trodAll_nil r0
  obtain rfl : args = #[v0] := by cases args; simp_all
  obtain ⟨a, ln, cp, rfl⟩ := okWide_slice Try.underlying53 (hval 0 53 v0 rfl rfl)
  obtain ⟨n0, h0'⟩ := h0
  obtain ⟨s, l, es, hs, ho⟩ := trod_steps (cs := [.slice a ln cp]) h0'
  obtain rfl : Value.slice a ln cp = s := by simpa using es
  refine (vers29_ok (envOf W) _ l hs ho W St.all).mono ?_
  rintro e W' ⟨r, H', rfl, ⟨rfl, rfl⟩, s'⟩
  refine ⟨_, rfl, post_of_below (tb := 4) rfl rfl rfl Try.underlying4 laidOut (fun t ht => ?_) hW' (below_of_St s')⟩
  · have := List.all_eq_true.1 pars t ht
    rw [Bool.and_eq_true, decide_eq_true_eq] at this
    exact this

theorem over : Rows.syncVersionsRow.holds Try.pinned (OpenSpec.ofChange Rows.syncVersionsSpec) :=
  OpenClaim.holds_of_wide 6 Try.f6 rfl rfl rfl rfl rfl rfl rfl ⟨rfl, rfl, rfl, rfl, rfl⟩ rfl rfl rfl rfl rfl (by kernel_rfl) Try.func6 (by kernel_rfl)
    (of_decide_eq_true (by kernel_rfl)) (by unfold Func.isWrapper; first | (rw [if_pos (by decide +kernel)]; kernel_rfl) | (rw [if_neg (by decide +kernel)]; exact ⟨rfl, rfl⟩))
    (fun os started H enc _ => lifted os started H enc)

theorem proved : Rows.SyncVersionsSaid := over
end Go.Proofs.Ytagcpamchgpgiaa.syncVersions
end
