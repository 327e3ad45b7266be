/- QNm: JoiG, Close, OpnJ, OpnU, JoiH, JmakesP. -/
import Derived.WalkKit
import Derived.ProofKit
import Derived.OpenShut
import Derived.Carry
import Derived.Test.YtagcpamchgpgiaaRows
import Derived.JoinedCond
import Derived.Test.YtagcpamchgpgiaaRma
import Derived.Test.YtagcpamchgpgiaaRmb
import Derived.Test.YtagcpamchgpgiaaRmc
section
/- longlinelaw10.alive; JoinBounds: the walk. -/
namespace Go.Proofs.Ytagcpamchgpgiaa
set_option maxRecDepth 100000
set_option maxHeartbeats 4000000
set_option linter.unusedVariables false
set_option linter.unusedSimpArgs false
open Go.Sx
theorem zeros_u8 (n : Nat) : (List.replicate n [Value.int .u8 0]).flatten = u8s (List.replicate n 0) := by
  induction n with
  | zero => rfl
  | succ n ih => rw [List.replicate_succ, List.flatten_cons, ih, List.replicate_succ]; rfl
theorem tb0_ok : (⟨1, []⟩ : Tb).Ok := ⟨Nat.le_refl _, by dsimp only; omega, by simp, by simp, by simp, by simp⟩
theorem tput_q (E : Env) (b : Nat) (T T' : Tb) (out : List Int) (is : Bool) (e : Int) (p : Prt) (hd : p.At E) (hq : T.put p = (⟨out, is, e⟩, T')) : Does Try.prog 12 #[.pointer (some ⟨b, 0, none⟩), .agg p.enc.toArray] E ([tabP b T]) fun r H' => ∃ v, r = .tuple #[v, .bool is, .int .i64 e] ∧ H' = [osl 5 1 v out.length (u8s out), tabP b T'] := by
  have := tput_t E b T p hd
  rw [hq] at this
  exact this
theorem waits_q (E : Env) (b : Nat) (T : Tb) (ws : List Nat) (hw : T.waits = ws) : Does Try.prog 14 #[.pointer (some ⟨b, 0, none⟩)] E ([tabP b T]) fun r H' => H' = [osl 22 1 r ws.length (ws.map u6), tabP b T] := by
  subst hw
  exact waits_t E b T
theorem alive10_ok (E : Env) : Does Try.prog 9 #[] E ([]) fun r H' => r = .bool true ∧ H' = [] := by
  refine Does.go _ _ Try.func9 rfl Try.ntmps9 rfl rfl ?_
  skip
  refine Body.seq ?_
  refine Body.region ?_
  refine Ops.u (Dtu.asg (lk rfl)) rfl ?_
  refine Ops.nil ?_
  refine Then.next ?_
  refine Body.seq ?_
  refine Body.region ?_
  refine Ops.s (Stp.call rfl Try.call11 (lks rfl) (fun E' le hat => jnew_ok E') ?_) rfl
  rintro _ _ ⟨t13, rfl, rfl⟩
  refine Ops.u (Dtu.asg (lk rfl)) rfl ?_
  refine Ops.nil ?_
  refine Then.next ?_
  refine Body.seq ?_
  refine Body.region ?_
  refine Ops.s (Stp.make (m := 500) Try.underlying23 ty5 rfl (lk rfl) (lk rfl) (by omega) (by omega) (by omega) (fun v15 => ?_)) rfl
  refine Ops.s (Stp.call rfl Try.call10 (lks rfl) (fun E' le hat => split_ok E' 3 _ (List.replicate 500 (0 : Int)) (by first | (rw [List.length_replicate, u8s, List.map_replicate]; exact (by first | exact Sl.mono (by assumption) le | exact Sl.hatI hat 0 rfl | exact Sl.hatI hat 1 rfl | exact Sl.hatI hat 2 rfl | exact Sl.hatI hat 3 rfl | exact Sl.hatI hat 4 rfl | exact Sl.hatI hat 5 rfl | exact Sl.hatI hat 6 rfl | exact Sl.hatI hat 7 rfl | exact Sl.hatI hat 8 rfl | exact Sl.hatI hat 9 rfl | exact Sl.hatI hat 10 rfl | exact Sl.hatI hat 11 rfl | exact Sl.hatI hat 12 rfl | exact Sl.hatI hat 13 rfl | exact Sl.hatI hat 14 rfl | exact Sl.hatI hat 15 rfl | exact Sl.hatW hat 0 rfl | exact Sl.hatW hat 1 rfl | exact Sl.hatW hat 2 rfl | exact Sl.hatW hat 3 rfl | exact Sl.hatW hat 4 rfl | exact Sl.hatW hat 5 rfl | exact Sl.hatW hat 6 rfl | exact Sl.hatW hat 7 rfl | exact Sl.hatW hat 8 rfl | exact Sl.hatW hat 9 rfl))) (by rw [List.length_replicate]; omega) (by omega) (by omega)) ?_) rfl
  rintro _ _ ⟨v16, ps16, L16, rfl, rfl, so16⟩
  refine Ops.u (Dtu.mv (lk rfl)) rfl ?_
  refine Ops.u (Dtu.ext (lk rfl) rfl) rfl ?_
  refine Ops.u (Dtu.ext (lk rfl) rfl) rfl ?_
  refine Ops.u (Dtu.asg (lk rfl)) rfl ?_
  refine Ops.u (Dtu.asg (lk rfl)) rfl ?_
  refine Ops.nil ?_
  refine Then.next ?_
  refine Body.seq ?_
  have hpl : ps16.length = 2 := by rw [so16.len]; decide
  have ho0 := so16.own 0 (by omega)
  have ho1 := so16.own 1 (by omega)
  have hz5 : ((List.replicate 500 (0 : Int))).length ≤ 24000 := by simp
  have hn0 : ∀ i, (List.replicate 64 false)[i]! = true → i < ps16.length := fun i h => by
    exfalso
    by_cases hi : i < 64
    · rw [getElem!_pos _ i (by simpa using hi), List.getElem_replicate] at h; cases h
    · rw [getElem!_neg _ i (by simpa using hi)] at h; cases h
  have he1 := put_next (k := 1) (came := List.replicate 64 false) so16 hz5 (by omega) (by omega) (by omega) rfl rfl hn0
  have hn1 : ∀ i, ((List.replicate 64 false).set 1 true)[i]! = true → i < ps16.length := fun i h => by
    by_cases hi : i = 1
    · omega
    · refine hn0 i ?_
      by_cases hl : i < 64
      · rw [getElem!_pos _ i (by simpa using hl), List.getElem_set_ne (fun h => hi h.symm)] at h
        rw [getElem!_pos _ i (by simpa using hl)]; exact h
      · rw [getElem!_neg _ i (by simpa using hl)] at h; cases h
  have he2 := put_next (k := 0) (came := (List.replicate 64 false).set 1 true) so16 hz5 (by omega) (by omega) (by omega) rfl rfl hn1
  have hc0 : (List.replicate 64 false).countP tbOf.id' = 0 := by decide
  have hc1 : ((List.replicate 64 false).set 1 true).countP tbOf.id' = 1 := by decide
  rw [hc0, hpl, if_pos (by omega)] at he1
  rw [hc1, hpl, if_neg (by omega)] at he2
  have he3 := put_old (k := 0) so16 hz5 (by omega) (by omega) (by omega)
  have ht0 : tbOf 3 ps16 (List.replicate 64 false) = ⟨1, []⟩ := rfl
  rw [ht0] at he1
  have hzl : ((List.replicate 500 (0 : Int))).length = 500 := by simp
  generalize tbOf 3 ps16 ((List.replicate 64 false).set 1 true) = T1 at *
  have hw : (⟨3 + 1, []⟩ : Tb).waits = [] := by simp [Tb.waits]
  generalize (List.replicate 500 (0 : Int)) = z5 at *
  refine Body.seq ?_
  refine Body.region ?_
  refine Ops.u (Dtu.mv (lk rfl)) rfl ?_
  refine Ops.u (Dtu.neq (lk rfl) (lk rfl)) rfl ?_
  refine Ops.u (Dtu.mv (lk rfl)) rfl ?_
  refine Ops.decP 21 rfl (fun hy => absurd hy (by first | omega | assumption | decide)) (fun _ => ?_)
  refine Ops.gu rfl rfl rfl (Dtu.mv (lk rfl)) rfl ?_
  refine Ops.gu rfl rfl rfl (Dtu.lenS Try.underlying25 (Sl.osl 0 rfl) (lk rfl)) rfl ?_
  refine Ops.gu rfl rfl rfl (Dtu.neq (lk rfl) (lk rfl)) rfl ?_
  refine Ops.u (Dtu.pickF (lk rfl) (lk rfl)) rfl ?_
  refine Ops.nil ?_
  refine Then.next ?_
  refine Body.condP (lk rfl) (fun hy => absurd hy (by first | omega | assumption | decide)) (fun _ => ?_)
  refine Body.skip ?_
  refine Then.next ?_
  refine Body.seq ?_
  refine Body.region ?_
  refine Ops.u (Dtu.mv (lk rfl)) rfl ?_
  refine Ops.u (Dtu.mv (lk rfl)) rfl ?_
  refine Ops.u (Dtu.ix (i := 1) Try.underlying25 Try.sizeOf35 (Sl.osl 0 rfl) (lk rfl) (lk rfl) (by omega) (by omega)) rfl ?_
  refine Ops.d (Det.lda Try.isAgg35 Try.sizeOf35 (lk rfl) (Rds.sl (Sl.osl 0 rfl) (gf (sz := 4) (fun _ => rfl) (by omega))) rfl) rfl ?_
  refine Ops.s (Stp.callOwn [3] rfl rfl Try.call12 (lks rfl) (fun E' le hat => tput_q E' _ _ _ _ _ _ ps16[1]! (poolSl (L := L16) (by first | exact At.mono (by assumption) le | exact hat _ (.head _) | exact hat _ (.tail _ (.head _)) | exact hat _ (.tail _ (.tail _ (.head _))) | exact hat _ (.tail _ (.tail _ (.tail _ (.head _)))) | exact hat _ (.tail _ (.tail _ (.tail _ (.tail _ (.head _))))) | exact hat _ (.tail _ (.tail _ (.tail _ (.tail _ (.tail _ (.head _)))))) | exact hat _ (.tail _ (.tail _ (.tail _ (.tail _ (.tail _ (.tail _ (.head _))))))) | exact hat _ (.tail _ (.tail _ (.tail _ (.tail _ (.tail _ (.tail _ (.tail _ (.head _)))))))) | exact hat _ (.tail _ (.tail _ (.tail _ (.tail _ (.tail _ (.tail _ (.tail _ (.tail _ (.head _))))))))) | exact hat _ (.tail _ (.tail _ (.tail _ (.tail _ (.tail _ (.tail _ (.tail _ (.tail _ (.tail _ (.head _))))))))))) ho1) he1) ?_) rfl
  rintro _ _ ⟨v31, rfl, rfl⟩
  refine Ops.u (Dtu.mv (lk rfl)) rfl ?_
  refine Ops.u (Dtu.ext (lk rfl) rfl) rfl ?_
  refine Ops.u (Dtu.ext (lk rfl) rfl) rfl ?_
  refine Ops.u (Dtu.ext (lk rfl) rfl) rfl ?_
  refine Ops.u (Dtu.asg (lk rfl)) rfl ?_
  refine Ops.u (Dtu.asg (lk rfl)) rfl ?_
  refine Ops.u (Dtu.asg (lk rfl)) rfl ?_
  refine Ops.nil ?_
  refine Then.next ?_
  refine Body.seq ?_
  refine Body.region ?_
  refine Ops.u (Dtu.mv (lk rfl)) rfl ?_
  refine Ops.u (Dtu.mv (lk rfl)) rfl ?_
  refine Ops.u (Dtu.ix (i := 0) Try.underlying25 Try.sizeOf35 (Sl.osl 2 rfl) (lk rfl) (lk rfl) (by omega) (by omega)) rfl ?_
  refine Ops.d (Det.lda Try.isAgg35 Try.sizeOf35 (lk rfl) (Rds.sl (Sl.osl 2 rfl) (gf (sz := 4) (fun _ => rfl) (by omega))) rfl) rfl ?_
  refine Ops.s (Stp.callOwn [1] rfl rfl Try.call12 (lks rfl) (fun E' le hat => tput_q E' _ _ _ _ _ _ ps16[0]! (poolSl (L := L16) (by first | exact At.mono (by assumption) le | exact hat _ (.head _) | exact hat _ (.tail _ (.head _)) | exact hat _ (.tail _ (.tail _ (.head _))) | exact hat _ (.tail _ (.tail _ (.tail _ (.head _)))) | exact hat _ (.tail _ (.tail _ (.tail _ (.tail _ (.head _))))) | exact hat _ (.tail _ (.tail _ (.tail _ (.tail _ (.tail _ (.head _)))))) | exact hat _ (.tail _ (.tail _ (.tail _ (.tail _ (.tail _ (.tail _ (.head _))))))) | exact hat _ (.tail _ (.tail _ (.tail _ (.tail _ (.tail _ (.tail _ (.tail _ (.head _)))))))) | exact hat _ (.tail _ (.tail _ (.tail _ (.tail _ (.tail _ (.tail _ (.tail _ (.tail _ (.head _))))))))) | exact hat _ (.tail _ (.tail _ (.tail _ (.tail _ (.tail _ (.tail _ (.tail _ (.tail _ (.tail _ (.head _))))))))))) ho0) he2) ?_) rfl
  rintro _ _ ⟨v40, rfl, rfl⟩
  refine Ops.u (Dtu.mv (lk rfl)) rfl ?_
  refine Ops.u (Dtu.ext (lk rfl) rfl) rfl ?_
  refine Ops.u (Dtu.ext (lk rfl) rfl) rfl ?_
  refine Ops.u (Dtu.ext (lk rfl) rfl) rfl ?_
  refine Ops.u (Dtu.asg (lk rfl)) rfl ?_
  refine Ops.u (Dtu.asg (lk rfl)) rfl ?_
  refine Ops.u (Dtu.asg (lk rfl)) rfl ?_
  refine Ops.nil ?_
  refine Then.next ?_
  refine Body.seq ?_
  refine Body.region ?_
  refine Ops.u (Dtu.mv (lk rfl)) rfl ?_
  refine Ops.u (Dtu.mv (lk rfl)) rfl ?_
  refine Ops.u (Dtu.ix (i := 0) Try.underlying25 Try.sizeOf35 (Sl.osl 3 rfl) (lk rfl) (lk rfl) (by omega) (by omega)) rfl ?_
  refine Ops.d (Det.lda Try.isAgg35 Try.sizeOf35 (lk rfl) (Rds.sl (Sl.osl 3 rfl) (gf (sz := 4) (fun _ => rfl) (by omega))) rfl) rfl ?_
  refine Ops.s (Stp.callOwn [1] rfl rfl Try.call12 (lks rfl) (fun E' le hat => tput_q E' _ _ _ _ _ _ ps16[0]! (poolSl (L := L16) (by first | exact At.mono (by assumption) le | exact hat _ (.head _) | exact hat _ (.tail _ (.head _)) | exact hat _ (.tail _ (.tail _ (.head _))) | exact hat _ (.tail _ (.tail _ (.tail _ (.head _)))) | exact hat _ (.tail _ (.tail _ (.tail _ (.tail _ (.head _))))) | exact hat _ (.tail _ (.tail _ (.tail _ (.tail _ (.tail _ (.head _)))))) | exact hat _ (.tail _ (.tail _ (.tail _ (.tail _ (.tail _ (.tail _ (.head _))))))) | exact hat _ (.tail _ (.tail _ (.tail _ (.tail _ (.tail _ (.tail _ (.tail _ (.head _)))))))) | exact hat _ (.tail _ (.tail _ (.tail _ (.tail _ (.tail _ (.tail _ (.tail _ (.tail _ (.head _))))))))) | exact hat _ (.tail _ (.tail _ (.tail _ (.tail _ (.tail _ (.tail _ (.tail _ (.tail _ (.tail _ (.head _))))))))))) ho0) he3) ?_) rfl
  rintro _ _ ⟨v49, rfl, rfl⟩
  refine Ops.u (Dtu.mv (lk rfl)) rfl ?_
  refine Ops.u (Dtu.ext (lk rfl) rfl) rfl ?_
  refine Ops.u (Dtu.ext (lk rfl) rfl) rfl ?_
  refine Ops.u (Dtu.ext (lk rfl) rfl) rfl ?_
  refine Ops.u (Dtu.asg (lk rfl)) rfl ?_
  refine Ops.u (Dtu.asg (lk rfl)) rfl ?_
  refine Ops.u (Dtu.asg (lk rfl)) rfl ?_
  refine Ops.nil ?_
  refine Then.next ?_
  refine Body.seq ?_
  refine Body.region ?_
  refine Ops.u (Dtu.mv (lk rfl)) rfl ?_
  refine Ops.u (Dtu.not (lk rfl)) rfl ?_
  refine Ops.u (Dtu.mv (lk rfl)) rfl ?_
  refine Ops.gu rfl rfl rfl (Dtu.mv (lk rfl)) rfl ?_
  refine Ops.gu rfl rfl rfl (Dtu.eql (lk rfl) (lk rfl)) rfl ?_
  refine Ops.u (Dtu.pickT (lk rfl) (lk rfl)) rfl ?_
  refine Ops.u (Dtu.mv (lk rfl)) rfl ?_
  refine Ops.decP 59 rfl (fun _ => ?_) (fun hn => absurd (by first | omega | assumption | decide) hn)
  refine Ops.gu rfl rfl rfl (Dtu.mv (lk rfl)) rfl ?_
  refine Ops.u (Dtu.pickT (lk rfl) (lk rfl)) rfl ?_
  refine Ops.u (Dtu.mv (lk rfl)) rfl ?_
  refine Ops.gu rfl rfl rfl (Dtu.mv (lk rfl)) rfl ?_
  refine Ops.gu rfl rfl rfl (Dtu.eql (lk rfl) (lk rfl)) rfl ?_
  refine Ops.u (Dtu.pickT (lk rfl) (lk rfl)) rfl ?_
  refine Ops.u (Dtu.mv (lk rfl)) rfl ?_
  refine Ops.decP 66 rfl (fun _ => ?_) (fun hn => absurd (by first | omega | assumption | decide) hn)
  refine Ops.gu rfl rfl rfl (Dtu.mv (lk rfl)) rfl ?_
  refine Ops.gu rfl rfl rfl (Dtu.lenS Try.underlying23 (Sl.osl 2 rfl) (lk rfl)) rfl ?_
  refine Ops.gu rfl rfl rfl (Dtu.eql (lk rfl) (lk rfl)) rfl ?_
  refine Ops.u (Dtu.pickT (lk rfl) (lk rfl)) rfl ?_
  refine Ops.u (Dtu.mv (lk rfl)) rfl ?_
  refine Ops.decP 71 rfl (fun _ => ?_) (fun hn => absurd (by first | omega | assumption | decide) hn)
  refine Ops.gu rfl rfl rfl (Dtu.mv (lk rfl)) rfl ?_
  refine Ops.gu rfl rfl rfl (Dtu.eql (lk rfl) (lk rfl)) rfl ?_
  refine Ops.u (Dtu.pickT (lk rfl) (lk rfl)) rfl ?_
  refine Ops.u (Dtu.mv (lk rfl)) rfl ?_
  refine Ops.decP 75 rfl (fun _ => ?_) (fun hn => absurd (by first | omega | assumption | decide) hn)
  refine Ops.gu rfl rfl rfl (Dtu.mv (lk rfl)) rfl ?_
  refine Ops.gs rfl rfl rfl (Stp.call rfl Try.call13 (lks rfl) (fun E' le hat => floor_r E' _ _ (by first | exact At.mono (by assumption) le | exact hat _ (.head _) | exact hat _ (.tail _ (.head _)) | exact hat _ (.tail _ (.tail _ (.head _))) | exact hat _ (.tail _ (.tail _ (.tail _ (.head _)))) | exact hat _ (.tail _ (.tail _ (.tail _ (.tail _ (.head _))))) | exact hat _ (.tail _ (.tail _ (.tail _ (.tail _ (.tail _ (.head _)))))) | exact hat _ (.tail _ (.tail _ (.tail _ (.tail _ (.tail _ (.tail _ (.head _))))))) | exact hat _ (.tail _ (.tail _ (.tail _ (.tail _ (.tail _ (.tail _ (.tail _ (.head _)))))))) | exact hat _ (.tail _ (.tail _ (.tail _ (.tail _ (.tail _ (.tail _ (.tail _ (.tail _ (.head _))))))))) | exact hat _ (.tail _ (.tail _ (.tail _ (.tail _ (.tail _ (.tail _ (.tail _ (.tail _ (.tail _ (.head _)))))))))))) ?_) rfl
  rintro _ _ ⟨rfl, rfl⟩
  refine Ops.gu rfl rfl rfl (Dtu.eql (lk rfl) (lk rfl)) rfl ?_
  refine Ops.u (Dtu.pickT (lk rfl) (lk rfl)) rfl ?_
  refine Ops.u (Dtu.mv (lk rfl)) rfl ?_
  refine Ops.decP 80 rfl (fun _ => ?_) (fun hn => absurd (by first | omega | assumption | decide) hn)
  refine Ops.gu rfl rfl rfl (Dtu.mv (lk rfl)) rfl ?_
  refine Ops.gs rfl rfl rfl (Stp.callOwn [1] rfl rfl Try.call14 (lks rfl) (fun E' le hat => waits_q E' _ _ _ hw) ?_) rfl
  rintro _ _ rfl
  refine Ops.gu rfl rfl rfl (Dtu.lenS Try.underlying38 (Sl.osl 0 rfl) (lk rfl)) rfl ?_
  refine Ops.gu rfl rfl rfl (Dtu.eql (lk rfl) (lk rfl)) rfl ?_
  refine Ops.u (Dtu.pickT (lk rfl) (lk rfl)) rfl ?_
  refine Ops.u (Dtu.asg (lk rfl)) rfl ?_
  refine Ops.nil ?_
  refine Then.next ?_
  refine Body.ret ?_
  exact ⟨.inr rfl, _, pk [] rfl, rfl, rfl⟩
theorem bounds10_ok (E : Env) (v : Value) (l : List Prt) (hv : Sl E [] 4 v l.length (l.flatMap Prt.enc)) (hp : ∀ p ∈ l, p.At E) : Does Try.prog 4 #[v] E ([]) fun r H' => r = .bool true ∧ H' = [] := by
  refine Does.pure hv.len fun hlen => ?_
  refine Does.go _ _ Try.func4 rfl Try.ntmps4 rfl rfl ?_
  skip
  refine Body.seq ?_
  refine Body.region ?_
  refine Ops.u (Dtu.asg (lk rfl)) rfl ?_
  refine Ops.nil ?_
  refine Then.next ?_
  refine Body.seq ?_
  refine Body.region ?_
  refine Ops.s (Stp.call rfl Try.call11 (lks rfl) (fun E' le hat => jnew_ok E') ?_) rfl
  rintro _ _ ⟨t11, rfl, rfl⟩
  refine Ops.u (Dtu.asg (lk rfl)) rfl ?_
  refine Ops.nil ?_
  refine Then.next ?_
  refine Body.seq ?_
  refine Body.region ?_
  refine Ops.u (Dtu.mv (lk rfl)) rfl ?_
  refine Ops.s (Stp.call rfl Try.call13 (lks rfl) (fun E' le hat => floor_r E' _ _ (by first | exact At.mono (by assumption) le | exact hat _ (.head _) | exact hat _ (.tail _ (.head _)) | exact hat _ (.tail _ (.tail _ (.head _))) | exact hat _ (.tail _ (.tail _ (.tail _ (.head _)))) | exact hat _ (.tail _ (.tail _ (.tail _ (.tail _ (.head _))))) | exact hat _ (.tail _ (.tail _ (.tail _ (.tail _ (.tail _ (.head _)))))) | exact hat _ (.tail _ (.tail _ (.tail _ (.tail _ (.tail _ (.tail _ (.head _))))))) | exact hat _ (.tail _ (.tail _ (.tail _ (.tail _ (.tail _ (.tail _ (.tail _ (.head _)))))))) | exact hat _ (.tail _ (.tail _ (.tail _ (.tail _ (.tail _ (.tail _ (.tail _ (.tail _ (.head _))))))))) | exact hat _ (.tail _ (.tail _ (.tail _ (.tail _ (.tail _ (.tail _ (.tail _ (.tail _ (.tail _ (.head _)))))))))))) ?_) rfl
  rintro _ _ ⟨rfl, rfl⟩
  refine Ops.u (Dtu.asg (lk rfl)) rfl ?_
  refine Ops.u (Dtu.asg (lk rfl)) rfl ?_
  refine Ops.nil ?_
  refine Then.next ?_
  refine Body.seq ?_
  refine Body.seq ?_
  refine Body.region ?_
  refine Ops.u (Dtu.asg (lk rfl)) rfl ?_
  refine Ops.nil ?_
  refine Then.next ?_
  refine Body.block ?_
  refine Body.loopL (γ := Nat × Tb × Nat) [0, 2, 3] rfl (fun g => [(6, .int .i64 (g.1 : Nat)), (4, .int .u64 (g.2.2 : Nat)), (5, .int .u64 (g.2.1.floor : Nat))]) (fun g => [(0, tabP t11 g.2.1)]) (fun _ => rfl) (fun _ _ => rfl) (fun g => g.1 ≤ l.length ∧ g.1 ≤ 200 ∧ g.2.1.Ok ∧ g.2.2 < g.2.1.floor) (fun g => l.length - g.1) ((0, ⟨1, []⟩, 0)) (⟨Nat.zero_le _, by dsimp only; omega, tb0_ok, Nat.zero_lt_one⟩) ⟨rfl, rfl, rfl, trivial⟩ rfl ?_
  rintro ⟨k, T, last⟩ u ⟨hk1, hk2, hT, hl⟩
  dsimp only at hk1 hk2 hT hl ⊢
  by_cases hlt : k < l.length ∧ k < 200
  · have hlt1 := hlt.1
    have hlt2 := hlt.2
    have hpk : l[k]!.At E := hp _ (by rw [getElem!_pos l k hlt1]; exact List.getElem_mem _)
    have hsk : Sl E [] 1 l[k]!.s l[k]!.d.length (l[k]!.d.map (.int .u8)) := hpk
    obtain ⟨p1, p2, p3⟩ := Tb.put_ok hT l[k]!
    rcases hq : T.put l[k]! with ⟨⟨out, is, e⟩, T'⟩
    rw [hq] at p1 p2 p3
    dsimp only at p1 p2 p3
    have hwl := T'.waits_len
    have hfl := p1.len
    by_cases hbig : 600 < l[k]!.d.length
    · refine Body.seq ?_
      refine Body.seq ?_
      refine Body.region ?_
      refine Ops.u (Dtu.mv (lk rfl)) rfl ?_
      refine Ops.u (Dtu.mv (lk rfl)) rfl ?_
      refine Ops.u (Dtu.lenS Try.underlying25 (Sl.up hv) (lk rfl)) rfl ?_
      refine Ops.u (Dtu.lss (lk rfl) (lk rfl)) rfl ?_
      refine Ops.u (Dtu.mv (lk rfl)) rfl ?_
      refine Ops.decP 18 rfl (fun _ => ?_) (fun hn => absurd (by first | omega | assumption | decide) hn)
      refine Ops.gu rfl rfl rfl (Dtu.mv (lk rfl)) rfl ?_
      refine Ops.gu rfl rfl rfl (Dtu.lss (lk rfl) (lk rfl)) rfl ?_
      refine Ops.u (Dtu.pickT (lk rfl) (lk rfl)) rfl ?_
      refine Ops.nil ?_
      refine Then.next ?_
      refine Body.condP (lk rfl) (fun _ => ?_) (fun hn => absurd (by first | omega | assumption | decide) hn)
      refine Body.skip ?_
      refine Then.next ?_
      refine Body.seq ?_
      refine Body.block ?_
      refine Body.seq ?_
      refine Body.seq ?_
      refine Body.region ?_
      refine Ops.u (Dtu.mv (lk rfl)) rfl ?_
      refine Ops.u (Dtu.mv (lk rfl)) rfl ?_
      refine Ops.u (Dtu.ix (i := (k)) Try.underlying25 Try.sizeOf35 (Sl.up hv) (lk rfl) (lk rfl) (by omega) (by omega)) rfl ?_
      refine Ops.u (Dtu.fld fa35_3 (lk rfl)) rfl ?_
      refine Ops.d (Det.ld Try.isAgg23 (lk rfl) (Rd.sl2 (Sl.up hv) (gfe (sz := 4) (fun _ => rfl) (by omega) rfl))) rfl ?_
      refine Ops.u (Dtu.lenS Try.underlying23 (Sl.up hsk) (lk rfl)) rfl ?_
      refine Ops.u (Dtu.gtr (lk rfl) (lk rfl)) rfl ?_
      refine Ops.nil ?_
      refine Then.next ?_
      refine Body.condP (lk rfl) (fun _ => ?_) (fun hn => absurd (by first | omega | assumption | decide) hn)
      refine Body.seq ?_
      refine Body.region ?_
      refine Ops.s (Stp.call rfl Try.call9 (lks rfl) (fun E' le hat => alive10_ok E') ?_) rfl
      rintro _ _ ⟨rfl, rfl⟩
      refine Ops.u (Dtu.asg (lk rfl)) rfl ?_
      refine Ops.nil ?_
      refine Then.next ?_
      refine Body.ret ?_
      refine Then.ret ?_
      refine Blk.ret ?_
      refine Then.ret ?_
      refine Round.ret ?_
      refine Blk.ret ?_
      refine Then.ret ?_
      exact ⟨.inr rfl, _, pk [] rfl, rfl, rfl⟩
    · by_cases hw0 : 0 < T'.waits.length
      · have hw1 := (T'.waits_ok p1 T'.waits[0]! (by rw [getElem!_pos _ 0 hw0]; exact List.getElem_mem _)).1
        cases is with
        | true =>
          obtain ⟨q1, q2, q3⟩ := p3 rfl
          subst q1
          refine Body.seq ?_
          refine Body.seq ?_
          refine Body.region ?_
          refine Ops.u (Dtu.mv (lk rfl)) rfl ?_
          refine Ops.u (Dtu.mv (lk rfl)) rfl ?_
          refine Ops.u (Dtu.lenS Try.underlying25 (Sl.up hv) (lk rfl)) rfl ?_
          refine Ops.u (Dtu.lss (lk rfl) (lk rfl)) rfl ?_
          refine Ops.u (Dtu.mv (lk rfl)) rfl ?_
          refine Ops.decP 18 rfl (fun _ => ?_) (fun hn => absurd (by first | omega | assumption | decide) hn)
          refine Ops.gu rfl rfl rfl (Dtu.mv (lk rfl)) rfl ?_
          refine Ops.gu rfl rfl rfl (Dtu.lss (lk rfl) (lk rfl)) rfl ?_
          refine Ops.u (Dtu.pickT (lk rfl) (lk rfl)) rfl ?_
          refine Ops.nil ?_
          refine Then.next ?_
          refine Body.condP (lk rfl) (fun _ => ?_) (fun hn => absurd (by first | omega | assumption | decide) hn)
          refine Body.skip ?_
          refine Then.next ?_
          refine Body.seq ?_
          refine Body.block ?_
          refine Body.seq ?_
          refine Body.seq ?_
          refine Body.region ?_
          refine Ops.u (Dtu.mv (lk rfl)) rfl ?_
          refine Ops.u (Dtu.mv (lk rfl)) rfl ?_
          refine Ops.u (Dtu.ix (i := (k)) Try.underlying25 Try.sizeOf35 (Sl.up hv) (lk rfl) (lk rfl) (by omega) (by omega)) rfl ?_
          refine Ops.u (Dtu.fld fa35_3 (lk rfl)) rfl ?_
          refine Ops.d (Det.ld Try.isAgg23 (lk rfl) (Rd.sl2 (Sl.up hv) (gfe (sz := 4) (fun _ => rfl) (by omega) rfl))) rfl ?_
          refine Ops.u (Dtu.lenS Try.underlying23 (Sl.up hsk) (lk rfl)) rfl ?_
          refine Ops.u (Dtu.gtr (lk rfl) (lk rfl)) rfl ?_
          refine Ops.nil ?_
          refine Then.next ?_
          refine Body.condP (lk rfl) (fun hy => absurd hy (by first | omega | assumption | decide)) (fun _ => ?_)
          refine Body.skip ?_
          refine Then.next ?_
          refine Body.seq ?_
          refine Body.region ?_
          refine Ops.u (Dtu.mv (lk rfl)) rfl ?_
          refine Ops.u (Dtu.mv (lk rfl)) rfl ?_
          refine Ops.u (Dtu.mv (lk rfl)) rfl ?_
          refine Ops.u (Dtu.ix (i := (k)) Try.underlying25 Try.sizeOf35 (Sl.up hv) (lk rfl) (lk rfl) (by omega) (by omega)) rfl ?_
          refine Ops.d (Det.lda Try.isAgg35 Try.sizeOf35 (lk rfl) (Rds.sl (Sl.up hv) (gf (sz := 4) (fun _ => rfl) (by omega))) rfl) rfl ?_
          refine Ops.s (Stp.callOwn [0] rfl rfl Try.call12 (lks rfl) (fun E' le hat => tput_q E' _ _ _ _ _ _ l[k]! (hpk.mono le) hq) ?_) rfl
          rintro _ _ ⟨v38, rfl, rfl⟩
          refine Ops.u (Dtu.mv (lk rfl)) rfl ?_
          refine Ops.u (Dtu.ext (lk rfl) rfl) rfl ?_
          refine Ops.u (Dtu.ext (lk rfl) rfl) rfl ?_
          refine Ops.u (Dtu.ext (lk rfl) rfl) rfl ?_
          refine Ops.u (Dtu.asg (lk rfl)) rfl ?_
          refine Ops.u (Dtu.asg (lk rfl)) rfl ?_
          refine Ops.u (Dtu.asg (lk rfl)) rfl ?_
          refine Ops.nil ?_
          refine Then.next ?_
          refine Body.seq ?_
          refine Body.region ?_
          refine Ops.u (Dtu.mv (lk rfl)) rfl ?_
          refine Ops.s (Stp.callOwn [1] rfl rfl Try.call14 (lks rfl) (fun E' le hat => waits_t E' _ _) ?_) rfl
          rintro _ _ rfl
          refine Ops.u (Dtu.asg (lk rfl)) rfl ?_
          refine Ops.nil ?_
          refine Then.next ?_
          refine Body.seq ?_
          refine Body.seq ?_
          refine Body.draw mixed ?_
          refine AB.u 0 rfl (by decide +kernel) (Dtu.mv (lk rfl)) rfl ?_
          refine AB.u 1 rfl (by decide +kernel) (Dtu.lenS Try.underlying38 (Sl.osl 0 rfl) (lk rfl)) rfl ?_
          refine AB.u 2 rfl (by decide +kernel) (Dtu.gtr (lk rfl) (lk rfl)) rfl ?_
          refine AB.u 3 rfl (by decide +kernel) (Dtu.mv (lk rfl)) rfl ?_
          refine AB.decP 47 rfl (fun hy => absurd hy (by first | omega | assumption | decide)) (fun _ => ?_)
          refine AB.gu 4 rfl (by decide +kernel) rfl rfl rfl (Dtu.mv (lk rfl)) rfl ?_
          refine AB.gu 6 rfl (by decide +kernel) rfl rfl rfl (Dtu.mv (lk rfl)) rfl ?_
          refine AB.gs 5 rfl (by decide +kernel) (by decide +kernel) rfl rfl rfl (Stp.call rfl Try.call13 (lks rfl) (fun E' le hat => floor_r E' _ _ (by first | exact At.mono (by assumption) le | exact hat _ (.head _) | exact hat _ (.tail _ (.head _)) | exact hat _ (.tail _ (.tail _ (.head _))) | exact hat _ (.tail _ (.tail _ (.tail _ (.head _)))) | exact hat _ (.tail _ (.tail _ (.tail _ (.tail _ (.head _))))) | exact hat _ (.tail _ (.tail _ (.tail _ (.tail _ (.tail _ (.head _)))))) | exact hat _ (.tail _ (.tail _ (.tail _ (.tail _ (.tail _ (.tail _ (.head _))))))) | exact hat _ (.tail _ (.tail _ (.tail _ (.tail _ (.tail _ (.tail _ (.tail _ (.head _)))))))) | exact hat _ (.tail _ (.tail _ (.tail _ (.tail _ (.tail _ (.tail _ (.tail _ (.tail _ (.head _))))))))) | exact hat _ (.tail _ (.tail _ (.tail _ (.tail _ (.tail _ (.tail _ (.tail _ (.tail _ (.tail _ (.head _)))))))))))) ?_) rfl
          rintro _ _ ⟨rfl, rfl⟩
          refine AB.gu 7 rfl (by decide +kernel) rfl rfl rfl (Dtu.lss (lk rfl) (lk rfl)) rfl ?_
          refine AB.u 8 rfl (by decide +kernel) (Dtu.pickF (lk rfl) (lk rfl)) rfl ?_
          refine AB.u 9 rfl (by decide +kernel) (Dtu.mv (lk rfl)) rfl ?_
          refine AB.decP 53 rfl (fun hy => absurd hy (by first | omega | assumption | decide)) (fun _ => ?_)
          refine AB.gu 10 rfl (by decide +kernel) rfl rfl rfl (Dtu.mv (lk rfl)) rfl ?_
          refine AB.gu 11 rfl (by decide +kernel) rfl rfl rfl (Dtu.lenS Try.underlying38 (Sl.osl 0 rfl) (lk rfl)) rfl ?_
          refine AB.gu 12 rfl (by decide +kernel) rfl rfl rfl (Dtu.gtr (lk rfl) (lk rfl)) rfl ?_
          refine AB.gu 13 rfl (by decide +kernel) rfl rfl rfl (Dtu.mv (lk rfl)) rfl ?_
          refine AB.decP 57 rfl (fun _ => ?_) (fun hn => absurd (by first | omega | assumption | decide) hn)
          refine AB.gu 14 rfl (by decide +kernel) rfl rfl rfl (Dtu.mv (lk rfl)) rfl ?_
          refine AB.gu 15 rfl (by decide +kernel) rfl rfl rfl (Dtu.ix (i := 0) Try.underlying38 Try.sizeOf22 (Sl.osl 0 rfl) (lk rfl) (lk rfl) (by omega) (by omega)) rfl ?_
          refine AB.gd 16 rfl (by decide +kernel) rfl rfl rfl rfl (Det.ld Try.isAgg22 (lk rfl) (Rd.sl (Sl.osl 0 rfl) (gm (by omega)))) rfl ?_
          refine AB.gu 17 rfl (by decide +kernel) rfl rfl rfl (Dtu.mv (lk rfl)) rfl ?_
          refine AB.gs 18 rfl (by decide +kernel) (by decide +kernel) rfl rfl rfl (Stp.call rfl Try.call13 (lks rfl) (fun E' le hat => floor_r E' _ _ (by first | exact At.mono (by assumption) le | exact hat _ (.head _) | exact hat _ (.tail _ (.head _)) | exact hat _ (.tail _ (.tail _ (.head _))) | exact hat _ (.tail _ (.tail _ (.tail _ (.head _)))) | exact hat _ (.tail _ (.tail _ (.tail _ (.tail _ (.head _))))) | exact hat _ (.tail _ (.tail _ (.tail _ (.tail _ (.tail _ (.head _)))))) | exact hat _ (.tail _ (.tail _ (.tail _ (.tail _ (.tail _ (.tail _ (.head _))))))) | exact hat _ (.tail _ (.tail _ (.tail _ (.tail _ (.tail _ (.tail _ (.tail _ (.head _)))))))) | exact hat _ (.tail _ (.tail _ (.tail _ (.tail _ (.tail _ (.tail _ (.tail _ (.tail _ (.head _))))))))) | exact hat _ (.tail _ (.tail _ (.tail _ (.tail _ (.tail _ (.tail _ (.tail _ (.tail _ (.tail _ (.head _)))))))))))) ?_) rfl
          rintro _ _ ⟨rfl, rfl⟩
          refine AB.gu 19 rfl (by decide +kernel) rfl rfl rfl (Dtu.lss (lk rfl) (lk rfl)) rfl ?_
          refine AB.gu 20 rfl (by decide +kernel) rfl rfl rfl (Dtu.pickT (lk rfl) (lk rfl)) rfl ?_
          refine AB.u 21 rfl (by decide +kernel) (Dtu.pickF (lk rfl) (lk rfl)) rfl ?_
          refine AB.u 22 rfl (by decide +kernel) (Dtu.mv (lk rfl)) rfl ?_
          refine AB.decP 66 rfl (fun hy => absurd hy (by first | omega | assumption | decide)) (fun _ => ?_)
          refine AB.gu 23 rfl (by decide +kernel) rfl rfl rfl (Dtu.mv (lk rfl)) rfl ?_
          refine AB.gu 24 rfl (by decide +kernel) rfl rfl rfl (Dtu.mv (lk rfl)) rfl ?_
          refine AB.gu 25 rfl (by decide +kernel) rfl rfl rfl (Dtu.mv (lk rfl)) rfl ?_
          refine AB.gu 26 rfl (by decide +kernel) rfl rfl rfl (Dtu.neq (lk rfl) (lk rfl)) rfl ?_
          refine AB.gu 27 rfl (by decide +kernel) rfl rfl rfl (Dtu.mv (lk rfl)) rfl ?_
          refine AB.decP 71 rfl (fun hy => absurd hy (by first | omega | assumption | decide)) (fun _ => ?_)
          refine AB.gu 28 rfl (by decide +kernel) rfl rfl rfl (Dtu.mv (lk rfl)) rfl ?_
          refine AB.gu 29 rfl (by decide +kernel) rfl rfl rfl (Dtu.mv (lk rfl)) rfl ?_
          refine AB.gu 30 rfl (by decide +kernel) rfl rfl rfl (Dtu.ix (i := (k)) Try.underlying25 Try.sizeOf35 (Sl.up hv) (lk rfl) (lk rfl) (by omega) (by omega)) rfl ?_
          refine AB.gu 31 rfl (by decide +kernel) rfl rfl rfl (Dtu.fld fa35_0 (lk rfl)) rfl ?_
          refine AB.gd 32 rfl (by decide +kernel) rfl rfl rfl rfl (Det.ld Try.isAgg22 (lk rfl) (Rd.sl2 (Sl.up hv) (gfe (sz := 4) (fun _ => rfl) (by omega) rfl))) rfl ?_
          refine AB.gu 33 rfl (by decide +kernel) rfl rfl rfl (Dtu.mv (lk rfl)) rfl ?_
          refine AB.gu 34 rfl (by decide +kernel) rfl rfl rfl (Dtu.leq (lk rfl) (lk rfl)) rfl ?_
          refine AB.gu 35 rfl (by decide +kernel) rfl rfl rfl (Dtu.pickF (lk rfl) (lk rfl)) rfl ?_
          refine AB.gu 36 rfl (by decide +kernel) rfl rfl rfl (Dtu.pickT (lk rfl) (lk rfl)) rfl ?_
          refine AB.u 37 rfl (by decide +kernel) (Dtu.pickF (lk rfl) (lk rfl)) rfl ?_
          refine AB.done (by decide +kernel) ?_
          refine Then.next ?_
          refine Body.condP (lk rfl) (fun hy => absurd hy (by first | omega | assumption | decide)) (fun _ => ?_)
          refine Body.skip ?_
          refine Then.next ?_
          refine Body.seq ?_
          refine Body.seq ?_
          refine Body.region ?_
          refine Ops.u (Dtu.mv (lk rfl)) rfl ?_
          refine Ops.nil ?_
          refine Then.next ?_
          refine Body.condT (lk rfl) ?_
          refine Body.region ?_
          refine Ops.u (Dtu.mv (lk rfl)) rfl ?_
          refine Ops.u (Dtu.mv (lk rfl)) rfl ?_
          refine Ops.u (Dtu.ix (i := (k)) Try.underlying25 Try.sizeOf35 (Sl.up hv) (lk rfl) (lk rfl) (by omega) (by omega)) rfl ?_
          refine Ops.u (Dtu.fld fa35_0 (lk rfl)) rfl ?_
          refine Ops.d (Det.ld Try.isAgg22 (lk rfl) (Rd.sl2 (Sl.up hv) (gfe (sz := 4) (fun _ => rfl) (by omega) rfl))) rfl ?_
          refine Ops.u (Dtu.asg (lk rfl)) rfl ?_
          refine Ops.nil ?_
          refine Then.next ?_
          refine Body.region ?_
          refine Ops.u (Dtu.mv (lk rfl)) rfl ?_
          refine Ops.s (Stp.call rfl Try.call13 (lks rfl) (fun E' le hat => floor_r E' _ _ (by first | exact At.mono (by assumption) le | exact hat _ (.head _) | exact hat _ (.tail _ (.head _)) | exact hat _ (.tail _ (.tail _ (.head _))) | exact hat _ (.tail _ (.tail _ (.tail _ (.head _)))) | exact hat _ (.tail _ (.tail _ (.tail _ (.tail _ (.head _))))) | exact hat _ (.tail _ (.tail _ (.tail _ (.tail _ (.tail _ (.head _)))))) | exact hat _ (.tail _ (.tail _ (.tail _ (.tail _ (.tail _ (.tail _ (.head _))))))) | exact hat _ (.tail _ (.tail _ (.tail _ (.tail _ (.tail _ (.tail _ (.tail _ (.head _)))))))) | exact hat _ (.tail _ (.tail _ (.tail _ (.tail _ (.tail _ (.tail _ (.tail _ (.tail _ (.head _))))))))) | exact hat _ (.tail _ (.tail _ (.tail _ (.tail _ (.tail _ (.tail _ (.tail _ (.tail _ (.tail _ (.head _)))))))))))) ?_) rfl
          rintro _ _ ⟨rfl, rfl⟩
          refine Ops.u (Dtu.asg (lk rfl)) rfl ?_
          refine Ops.nil ?_
          refine Blk.norm ?_
          refine Then.next ?_
          refine Body.region ?_
          refine Ops.u (Dtu.mv (lk rfl)) rfl ?_
          refine Ops.u (Dtu.add (lk rfl) (lk rfl) (w64 (by omega) (by omega))) rfl ?_
          refine Ops.u (Dtu.asg (lk rfl)) rfl ?_
          refine Ops.nil ?_
          refine Round.goL [1] (k + 1, T', l[k]!.id) rfl ⟨rfl, rfl, rfl, trivial⟩ rfl rfl ⟨hlt1, hlt2, p1, by dsimp only; omega⟩ (by dsimp only; omega)
        | false =>
          refine Body.seq ?_
          refine Body.seq ?_
          refine Body.region ?_
          refine Ops.u (Dtu.mv (lk rfl)) rfl ?_
          refine Ops.u (Dtu.mv (lk rfl)) rfl ?_
          refine Ops.u (Dtu.lenS Try.underlying25 (Sl.up hv) (lk rfl)) rfl ?_
          refine Ops.u (Dtu.lss (lk rfl) (lk rfl)) rfl ?_
          refine Ops.u (Dtu.mv (lk rfl)) rfl ?_
          refine Ops.decP 18 rfl (fun _ => ?_) (fun hn => absurd (by first | omega | assumption | decide) hn)
          refine Ops.gu rfl rfl rfl (Dtu.mv (lk rfl)) rfl ?_
          refine Ops.gu rfl rfl rfl (Dtu.lss (lk rfl) (lk rfl)) rfl ?_
          refine Ops.u (Dtu.pickT (lk rfl) (lk rfl)) rfl ?_
          refine Ops.nil ?_
          refine Then.next ?_
          refine Body.condP (lk rfl) (fun _ => ?_) (fun hn => absurd (by first | omega | assumption | decide) hn)
          refine Body.skip ?_
          refine Then.next ?_
          refine Body.seq ?_
          refine Body.block ?_
          refine Body.seq ?_
          refine Body.seq ?_
          refine Body.region ?_
          refine Ops.u (Dtu.mv (lk rfl)) rfl ?_
          refine Ops.u (Dtu.mv (lk rfl)) rfl ?_
          refine Ops.u (Dtu.ix (i := (k)) Try.underlying25 Try.sizeOf35 (Sl.up hv) (lk rfl) (lk rfl) (by omega) (by omega)) rfl ?_
          refine Ops.u (Dtu.fld fa35_3 (lk rfl)) rfl ?_
          refine Ops.d (Det.ld Try.isAgg23 (lk rfl) (Rd.sl2 (Sl.up hv) (gfe (sz := 4) (fun _ => rfl) (by omega) rfl))) rfl ?_
          refine Ops.u (Dtu.lenS Try.underlying23 (Sl.up hsk) (lk rfl)) rfl ?_
          refine Ops.u (Dtu.gtr (lk rfl) (lk rfl)) rfl ?_
          refine Ops.nil ?_
          refine Then.next ?_
          refine Body.condP (lk rfl) (fun hy => absurd hy (by first | omega | assumption | decide)) (fun _ => ?_)
          refine Body.skip ?_
          refine Then.next ?_
          refine Body.seq ?_
          refine Body.region ?_
          refine Ops.u (Dtu.mv (lk rfl)) rfl ?_
          refine Ops.u (Dtu.mv (lk rfl)) rfl ?_
          refine Ops.u (Dtu.mv (lk rfl)) rfl ?_
          refine Ops.u (Dtu.ix (i := (k)) Try.underlying25 Try.sizeOf35 (Sl.up hv) (lk rfl) (lk rfl) (by omega) (by omega)) rfl ?_
          refine Ops.d (Det.lda Try.isAgg35 Try.sizeOf35 (lk rfl) (Rds.sl (Sl.up hv) (gf (sz := 4) (fun _ => rfl) (by omega))) rfl) rfl ?_
          refine Ops.s (Stp.callOwn [0] rfl rfl Try.call12 (lks rfl) (fun E' le hat => tput_q E' _ _ _ _ _ _ l[k]! (hpk.mono le) hq) ?_) rfl
          rintro _ _ ⟨v38, rfl, rfl⟩
          refine Ops.u (Dtu.mv (lk rfl)) rfl ?_
          refine Ops.u (Dtu.ext (lk rfl) rfl) rfl ?_
          refine Ops.u (Dtu.ext (lk rfl) rfl) rfl ?_
          refine Ops.u (Dtu.ext (lk rfl) rfl) rfl ?_
          refine Ops.u (Dtu.asg (lk rfl)) rfl ?_
          refine Ops.u (Dtu.asg (lk rfl)) rfl ?_
          refine Ops.u (Dtu.asg (lk rfl)) rfl ?_
          refine Ops.nil ?_
          refine Then.next ?_
          refine Body.seq ?_
          refine Body.region ?_
          refine Ops.u (Dtu.mv (lk rfl)) rfl ?_
          refine Ops.s (Stp.callOwn [1] rfl rfl Try.call14 (lks rfl) (fun E' le hat => waits_t E' _ _) ?_) rfl
          rintro _ _ rfl
          refine Ops.u (Dtu.asg (lk rfl)) rfl ?_
          refine Ops.nil ?_
          refine Then.next ?_
          refine Body.seq ?_
          refine Body.seq ?_
          refine Body.draw mixed ?_
          refine AB.u 0 rfl (by decide +kernel) (Dtu.mv (lk rfl)) rfl ?_
          refine AB.u 1 rfl (by decide +kernel) (Dtu.lenS Try.underlying38 (Sl.osl 0 rfl) (lk rfl)) rfl ?_
          refine AB.u 2 rfl (by decide +kernel) (Dtu.gtr (lk rfl) (lk rfl)) rfl ?_
          refine AB.u 3 rfl (by decide +kernel) (Dtu.mv (lk rfl)) rfl ?_
          refine AB.decP 47 rfl (fun hy => absurd hy (by first | omega | assumption | decide)) (fun _ => ?_)
          refine AB.gu 4 rfl (by decide +kernel) rfl rfl rfl (Dtu.mv (lk rfl)) rfl ?_
          refine AB.gu 6 rfl (by decide +kernel) rfl rfl rfl (Dtu.mv (lk rfl)) rfl ?_
          refine AB.gs 5 rfl (by decide +kernel) (by decide +kernel) rfl rfl rfl (Stp.call rfl Try.call13 (lks rfl) (fun E' le hat => floor_r E' _ _ (by first | exact At.mono (by assumption) le | exact hat _ (.head _) | exact hat _ (.tail _ (.head _)) | exact hat _ (.tail _ (.tail _ (.head _))) | exact hat _ (.tail _ (.tail _ (.tail _ (.head _)))) | exact hat _ (.tail _ (.tail _ (.tail _ (.tail _ (.head _))))) | exact hat _ (.tail _ (.tail _ (.tail _ (.tail _ (.tail _ (.head _)))))) | exact hat _ (.tail _ (.tail _ (.tail _ (.tail _ (.tail _ (.tail _ (.head _))))))) | exact hat _ (.tail _ (.tail _ (.tail _ (.tail _ (.tail _ (.tail _ (.tail _ (.head _)))))))) | exact hat _ (.tail _ (.tail _ (.tail _ (.tail _ (.tail _ (.tail _ (.tail _ (.tail _ (.head _))))))))) | exact hat _ (.tail _ (.tail _ (.tail _ (.tail _ (.tail _ (.tail _ (.tail _ (.tail _ (.tail _ (.head _)))))))))))) ?_) rfl
          rintro _ _ ⟨rfl, rfl⟩
          refine AB.gu 7 rfl (by decide +kernel) rfl rfl rfl (Dtu.lss (lk rfl) (lk rfl)) rfl ?_
          refine AB.u 8 rfl (by decide +kernel) (Dtu.pickF (lk rfl) (lk rfl)) rfl ?_
          refine AB.u 9 rfl (by decide +kernel) (Dtu.mv (lk rfl)) rfl ?_
          refine AB.decP 53 rfl (fun hy => absurd hy (by first | omega | assumption | decide)) (fun _ => ?_)
          refine AB.gu 10 rfl (by decide +kernel) rfl rfl rfl (Dtu.mv (lk rfl)) rfl ?_
          refine AB.gu 11 rfl (by decide +kernel) rfl rfl rfl (Dtu.lenS Try.underlying38 (Sl.osl 0 rfl) (lk rfl)) rfl ?_
          refine AB.gu 12 rfl (by decide +kernel) rfl rfl rfl (Dtu.gtr (lk rfl) (lk rfl)) rfl ?_
          refine AB.gu 13 rfl (by decide +kernel) rfl rfl rfl (Dtu.mv (lk rfl)) rfl ?_
          refine AB.decP 57 rfl (fun _ => ?_) (fun hn => absurd (by first | omega | assumption | decide) hn)
          refine AB.gu 14 rfl (by decide +kernel) rfl rfl rfl (Dtu.mv (lk rfl)) rfl ?_
          refine AB.gu 15 rfl (by decide +kernel) rfl rfl rfl (Dtu.ix (i := 0) Try.underlying38 Try.sizeOf22 (Sl.osl 0 rfl) (lk rfl) (lk rfl) (by omega) (by omega)) rfl ?_
          refine AB.gd 16 rfl (by decide +kernel) rfl rfl rfl rfl (Det.ld Try.isAgg22 (lk rfl) (Rd.sl (Sl.osl 0 rfl) (gm (by omega)))) rfl ?_
          refine AB.gu 17 rfl (by decide +kernel) rfl rfl rfl (Dtu.mv (lk rfl)) rfl ?_
          refine AB.gs 18 rfl (by decide +kernel) (by decide +kernel) rfl rfl rfl (Stp.call rfl Try.call13 (lks rfl) (fun E' le hat => floor_r E' _ _ (by first | exact At.mono (by assumption) le | exact hat _ (.head _) | exact hat _ (.tail _ (.head _)) | exact hat _ (.tail _ (.tail _ (.head _))) | exact hat _ (.tail _ (.tail _ (.tail _ (.head _)))) | exact hat _ (.tail _ (.tail _ (.tail _ (.tail _ (.head _))))) | exact hat _ (.tail _ (.tail _ (.tail _ (.tail _ (.tail _ (.head _)))))) | exact hat _ (.tail _ (.tail _ (.tail _ (.tail _ (.tail _ (.tail _ (.head _))))))) | exact hat _ (.tail _ (.tail _ (.tail _ (.tail _ (.tail _ (.tail _ (.tail _ (.head _)))))))) | exact hat _ (.tail _ (.tail _ (.tail _ (.tail _ (.tail _ (.tail _ (.tail _ (.tail _ (.head _))))))))) | exact hat _ (.tail _ (.tail _ (.tail _ (.tail _ (.tail _ (.tail _ (.tail _ (.tail _ (.tail _ (.head _)))))))))))) ?_) rfl
          rintro _ _ ⟨rfl, rfl⟩
          refine AB.gu 19 rfl (by decide +kernel) rfl rfl rfl (Dtu.lss (lk rfl) (lk rfl)) rfl ?_
          refine AB.gu 20 rfl (by decide +kernel) rfl rfl rfl (Dtu.pickT (lk rfl) (lk rfl)) rfl ?_
          refine AB.u 21 rfl (by decide +kernel) (Dtu.pickF (lk rfl) (lk rfl)) rfl ?_
          refine AB.u 22 rfl (by decide +kernel) (Dtu.mv (lk rfl)) rfl ?_
          refine AB.decP 66 rfl (fun hy => absurd hy (by first | omega | assumption | decide)) (fun _ => ?_)
          refine AB.gu 23 rfl (by decide +kernel) rfl rfl rfl (Dtu.mv (lk rfl)) rfl ?_
          refine AB.gu 24 rfl (by decide +kernel) rfl rfl rfl (Dtu.mv (lk rfl)) rfl ?_
          refine AB.gn 25 rfl (by decide +kernel) rfl rfl rfl rfl rfl ?_
          refine AB.gn 26 rfl (by decide +kernel) rfl rfl rfl rfl rfl ?_
          refine AB.gn 27 rfl (by decide +kernel) rfl rfl rfl rfl rfl ?_
          refine AB.gn 28 rfl (by decide +kernel) rfl rfl rfl rfl rfl ?_
          refine AB.gn 29 rfl (by decide +kernel) rfl rfl rfl rfl rfl ?_
          refine AB.gn 30 rfl (by decide +kernel) rfl rfl rfl rfl rfl ?_
          refine AB.gn 31 rfl (by decide +kernel) rfl rfl rfl rfl rfl ?_
          refine AB.gn 32 rfl (by decide +kernel) rfl rfl rfl rfl rfl ?_
          refine AB.gn 33 rfl (by decide +kernel) rfl rfl rfl rfl rfl ?_
          refine AB.gn 34 rfl (by decide +kernel) rfl rfl rfl rfl rfl ?_
          refine AB.gn 35 rfl (by decide +kernel) rfl rfl rfl rfl rfl ?_
          refine AB.gu 36 rfl (by decide +kernel) rfl rfl rfl (Dtu.pickF (lk rfl) (lk rfl)) rfl ?_
          refine AB.u 37 rfl (by decide +kernel) (Dtu.pickF (lk rfl) (lk rfl)) rfl ?_
          refine AB.done (by decide +kernel) ?_
          refine Then.next ?_
          refine Body.condF (lk rfl) ?_
          refine Body.skip ?_
          refine Then.next ?_
          refine Body.seq ?_
          refine Body.seq ?_
          refine Body.region ?_
          refine Ops.u (Dtu.mv (lk rfl)) rfl ?_
          refine Ops.nil ?_
          refine Then.next ?_
          refine Body.condF (lk rfl) ?_
          refine Body.skip ?_
          refine Then.next ?_
          refine Body.region ?_
          refine Ops.u (Dtu.mv (lk rfl)) rfl ?_
          refine Ops.s (Stp.call rfl Try.call13 (lks rfl) (fun E' le hat => floor_r E' _ _ (by first | exact At.mono (by assumption) le | exact hat _ (.head _) | exact hat _ (.tail _ (.head _)) | exact hat _ (.tail _ (.tail _ (.head _))) | exact hat _ (.tail _ (.tail _ (.tail _ (.head _)))) | exact hat _ (.tail _ (.tail _ (.tail _ (.tail _ (.head _))))) | exact hat _ (.tail _ (.tail _ (.tail _ (.tail _ (.tail _ (.head _)))))) | exact hat _ (.tail _ (.tail _ (.tail _ (.tail _ (.tail _ (.tail _ (.head _))))))) | exact hat _ (.tail _ (.tail _ (.tail _ (.tail _ (.tail _ (.tail _ (.tail _ (.head _)))))))) | exact hat _ (.tail _ (.tail _ (.tail _ (.tail _ (.tail _ (.tail _ (.tail _ (.tail _ (.head _))))))))) | exact hat _ (.tail _ (.tail _ (.tail _ (.tail _ (.tail _ (.tail _ (.tail _ (.tail _ (.tail _ (.head _)))))))))))) ?_) rfl
          rintro _ _ ⟨rfl, rfl⟩
          refine Ops.u (Dtu.asg (lk rfl)) rfl ?_
          refine Ops.nil ?_
          refine Blk.norm ?_
          refine Then.next ?_
          refine Body.region ?_
          refine Ops.u (Dtu.mv (lk rfl)) rfl ?_
          refine Ops.u (Dtu.add (lk rfl) (lk rfl) (w64 (by omega) (by omega))) rfl ?_
          refine Ops.u (Dtu.asg (lk rfl)) rfl ?_
          refine Ops.nil ?_
          refine Round.goL [1] (k + 1, T', last) rfl ⟨rfl, rfl, rfl, trivial⟩ rfl rfl ⟨hlt1, hlt2, p1, by dsimp only; omega⟩ (by dsimp only; omega)
      · cases is with
        | true =>
          obtain ⟨q1, q2, q3⟩ := p3 rfl
          subst q1
          refine Body.seq ?_
          refine Body.seq ?_
          refine Body.region ?_
          refine Ops.u (Dtu.mv (lk rfl)) rfl ?_
          refine Ops.u (Dtu.mv (lk rfl)) rfl ?_
          refine Ops.u (Dtu.lenS Try.underlying25 (Sl.up hv) (lk rfl)) rfl ?_
          refine Ops.u (Dtu.lss (lk rfl) (lk rfl)) rfl ?_
          refine Ops.u (Dtu.mv (lk rfl)) rfl ?_
          refine Ops.decP 18 rfl (fun _ => ?_) (fun hn => absurd (by first | omega | assumption | decide) hn)
          refine Ops.gu rfl rfl rfl (Dtu.mv (lk rfl)) rfl ?_
          refine Ops.gu rfl rfl rfl (Dtu.lss (lk rfl) (lk rfl)) rfl ?_
          refine Ops.u (Dtu.pickT (lk rfl) (lk rfl)) rfl ?_
          refine Ops.nil ?_
          refine Then.next ?_
          refine Body.condP (lk rfl) (fun _ => ?_) (fun hn => absurd (by first | omega | assumption | decide) hn)
          refine Body.skip ?_
          refine Then.next ?_
          refine Body.seq ?_
          refine Body.block ?_
          refine Body.seq ?_
          refine Body.seq ?_
          refine Body.region ?_
          refine Ops.u (Dtu.mv (lk rfl)) rfl ?_
          refine Ops.u (Dtu.mv (lk rfl)) rfl ?_
          refine Ops.u (Dtu.ix (i := (k)) Try.underlying25 Try.sizeOf35 (Sl.up hv) (lk rfl) (lk rfl) (by omega) (by omega)) rfl ?_
          refine Ops.u (Dtu.fld fa35_3 (lk rfl)) rfl ?_
          refine Ops.d (Det.ld Try.isAgg23 (lk rfl) (Rd.sl2 (Sl.up hv) (gfe (sz := 4) (fun _ => rfl) (by omega) rfl))) rfl ?_
          refine Ops.u (Dtu.lenS Try.underlying23 (Sl.up hsk) (lk rfl)) rfl ?_
          refine Ops.u (Dtu.gtr (lk rfl) (lk rfl)) rfl ?_
          refine Ops.nil ?_
          refine Then.next ?_
          refine Body.condP (lk rfl) (fun hy => absurd hy (by first | omega | assumption | decide)) (fun _ => ?_)
          refine Body.skip ?_
          refine Then.next ?_
          refine Body.seq ?_
          refine Body.region ?_
          refine Ops.u (Dtu.mv (lk rfl)) rfl ?_
          refine Ops.u (Dtu.mv (lk rfl)) rfl ?_
          refine Ops.u (Dtu.mv (lk rfl)) rfl ?_
          refine Ops.u (Dtu.ix (i := (k)) Try.underlying25 Try.sizeOf35 (Sl.up hv) (lk rfl) (lk rfl) (by omega) (by omega)) rfl ?_
          refine Ops.d (Det.lda Try.isAgg35 Try.sizeOf35 (lk rfl) (Rds.sl (Sl.up hv) (gf (sz := 4) (fun _ => rfl) (by omega))) rfl) rfl ?_
          refine Ops.s (Stp.callOwn [0] rfl rfl Try.call12 (lks rfl) (fun E' le hat => tput_q E' _ _ _ _ _ _ l[k]! (hpk.mono le) hq) ?_) rfl
          rintro _ _ ⟨v38, rfl, rfl⟩
          refine Ops.u (Dtu.mv (lk rfl)) rfl ?_
          refine Ops.u (Dtu.ext (lk rfl) rfl) rfl ?_
          refine Ops.u (Dtu.ext (lk rfl) rfl) rfl ?_
          refine Ops.u (Dtu.ext (lk rfl) rfl) rfl ?_
          refine Ops.u (Dtu.asg (lk rfl)) rfl ?_
          refine Ops.u (Dtu.asg (lk rfl)) rfl ?_
          refine Ops.u (Dtu.asg (lk rfl)) rfl ?_
          refine Ops.nil ?_
          refine Then.next ?_
          refine Body.seq ?_
          refine Body.region ?_
          refine Ops.u (Dtu.mv (lk rfl)) rfl ?_
          refine Ops.s (Stp.callOwn [1] rfl rfl Try.call14 (lks rfl) (fun E' le hat => waits_t E' _ _) ?_) rfl
          rintro _ _ rfl
          refine Ops.u (Dtu.asg (lk rfl)) rfl ?_
          refine Ops.nil ?_
          refine Then.next ?_
          refine Body.seq ?_
          refine Body.seq ?_
          refine Body.draw mixed ?_
          refine AB.u 0 rfl (by decide +kernel) (Dtu.mv (lk rfl)) rfl ?_
          refine AB.u 1 rfl (by decide +kernel) (Dtu.lenS Try.underlying38 (Sl.osl 0 rfl) (lk rfl)) rfl ?_
          refine AB.u 2 rfl (by decide +kernel) (Dtu.gtr (lk rfl) (lk rfl)) rfl ?_
          refine AB.u 3 rfl (by decide +kernel) (Dtu.mv (lk rfl)) rfl ?_
          refine AB.decP 47 rfl (fun hy => absurd hy (by first | omega | assumption | decide)) (fun _ => ?_)
          refine AB.gu 4 rfl (by decide +kernel) rfl rfl rfl (Dtu.mv (lk rfl)) rfl ?_
          refine AB.gu 6 rfl (by decide +kernel) rfl rfl rfl (Dtu.mv (lk rfl)) rfl ?_
          refine AB.gs 5 rfl (by decide +kernel) (by decide +kernel) rfl rfl rfl (Stp.call rfl Try.call13 (lks rfl) (fun E' le hat => floor_r E' _ _ (by first | exact At.mono (by assumption) le | exact hat _ (.head _) | exact hat _ (.tail _ (.head _)) | exact hat _ (.tail _ (.tail _ (.head _))) | exact hat _ (.tail _ (.tail _ (.tail _ (.head _)))) | exact hat _ (.tail _ (.tail _ (.tail _ (.tail _ (.head _))))) | exact hat _ (.tail _ (.tail _ (.tail _ (.tail _ (.tail _ (.head _)))))) | exact hat _ (.tail _ (.tail _ (.tail _ (.tail _ (.tail _ (.tail _ (.head _))))))) | exact hat _ (.tail _ (.tail _ (.tail _ (.tail _ (.tail _ (.tail _ (.tail _ (.head _)))))))) | exact hat _ (.tail _ (.tail _ (.tail _ (.tail _ (.tail _ (.tail _ (.tail _ (.tail _ (.head _))))))))) | exact hat _ (.tail _ (.tail _ (.tail _ (.tail _ (.tail _ (.tail _ (.tail _ (.tail _ (.tail _ (.head _)))))))))))) ?_) rfl
          rintro _ _ ⟨rfl, rfl⟩
          refine AB.gu 7 rfl (by decide +kernel) rfl rfl rfl (Dtu.lss (lk rfl) (lk rfl)) rfl ?_
          refine AB.u 8 rfl (by decide +kernel) (Dtu.pickF (lk rfl) (lk rfl)) rfl ?_
          refine AB.u 9 rfl (by decide +kernel) (Dtu.mv (lk rfl)) rfl ?_
          refine AB.decP 53 rfl (fun hy => absurd hy (by first | omega | assumption | decide)) (fun _ => ?_)
          refine AB.gu 10 rfl (by decide +kernel) rfl rfl rfl (Dtu.mv (lk rfl)) rfl ?_
          refine AB.gu 11 rfl (by decide +kernel) rfl rfl rfl (Dtu.lenS Try.underlying38 (Sl.osl 0 rfl) (lk rfl)) rfl ?_
          refine AB.gu 12 rfl (by decide +kernel) rfl rfl rfl (Dtu.gtr (lk rfl) (lk rfl)) rfl ?_
          refine AB.gu 13 rfl (by decide +kernel) rfl rfl rfl (Dtu.mv (lk rfl)) rfl ?_
          refine AB.decP 57 rfl (fun hy => absurd hy (by first | omega | assumption | decide)) (fun _ => ?_)
          refine AB.gn 14 rfl (by decide +kernel) rfl rfl rfl rfl rfl ?_
          refine AB.gn 15 rfl (by decide +kernel) rfl rfl rfl rfl rfl ?_
          refine AB.gn 16 rfl (by decide +kernel) rfl rfl rfl rfl rfl ?_
          refine AB.gn 17 rfl (by decide +kernel) rfl rfl rfl rfl rfl ?_
          refine AB.gn 18 rfl (by decide +kernel) rfl rfl rfl rfl rfl ?_
          refine AB.gn 19 rfl (by decide +kernel) rfl rfl rfl rfl rfl ?_
          refine AB.gu 20 rfl (by decide +kernel) rfl rfl rfl (Dtu.pickF (lk rfl) (lk rfl)) rfl ?_
          refine AB.u 21 rfl (by decide +kernel) (Dtu.pickF (lk rfl) (lk rfl)) rfl ?_
          refine AB.u 22 rfl (by decide +kernel) (Dtu.mv (lk rfl)) rfl ?_
          refine AB.gu 23 rfl (by decide +kernel) rfl rfl rfl (Dtu.mv (lk rfl)) rfl ?_
          refine AB.gu 24 rfl (by decide +kernel) rfl rfl rfl (Dtu.mv (lk rfl)) rfl ?_
          refine AB.gu 25 rfl (by decide +kernel) rfl rfl rfl (Dtu.mv (lk rfl)) rfl ?_
          refine AB.gu 26 rfl (by decide +kernel) rfl rfl rfl (Dtu.neq (lk rfl) (lk rfl)) rfl ?_
          refine AB.gu 27 rfl (by decide +kernel) rfl rfl rfl (Dtu.mv (lk rfl)) rfl ?_
          refine AB.decP 71 rfl (fun hy => absurd hy (by first | omega | assumption | decide)) (fun _ => ?_)
          refine AB.gu 28 rfl (by decide +kernel) rfl rfl rfl (Dtu.mv (lk rfl)) rfl ?_
          refine AB.gu 29 rfl (by decide +kernel) rfl rfl rfl (Dtu.mv (lk rfl)) rfl ?_
          refine AB.gu 30 rfl (by decide +kernel) rfl rfl rfl (Dtu.ix (i := (k)) Try.underlying25 Try.sizeOf35 (Sl.up hv) (lk rfl) (lk rfl) (by omega) (by omega)) rfl ?_
          refine AB.gu 31 rfl (by decide +kernel) rfl rfl rfl (Dtu.fld fa35_0 (lk rfl)) rfl ?_
          refine AB.gd 32 rfl (by decide +kernel) rfl rfl rfl rfl (Det.ld Try.isAgg22 (lk rfl) (Rd.sl2 (Sl.up hv) (gfe (sz := 4) (fun _ => rfl) (by omega) rfl))) rfl ?_
          refine AB.gu 33 rfl (by decide +kernel) rfl rfl rfl (Dtu.mv (lk rfl)) rfl ?_
          refine AB.gu 34 rfl (by decide +kernel) rfl rfl rfl (Dtu.leq (lk rfl) (lk rfl)) rfl ?_
          refine AB.gu 35 rfl (by decide +kernel) rfl rfl rfl (Dtu.pickF (lk rfl) (lk rfl)) rfl ?_
          refine AB.gu 36 rfl (by decide +kernel) rfl rfl rfl (Dtu.pickT (lk rfl) (lk rfl)) rfl ?_
          refine AB.u 37 rfl (by decide +kernel) (Dtu.pickF (lk rfl) (lk rfl)) rfl ?_
          refine AB.done (by decide +kernel) ?_
          refine Then.next ?_
          refine Body.condP (lk rfl) (fun hy => absurd hy (by first | omega | assumption | decide)) (fun _ => ?_)
          refine Body.skip ?_
          refine Then.next ?_
          refine Body.seq ?_
          refine Body.seq ?_
          refine Body.region ?_
          refine Ops.u (Dtu.mv (lk rfl)) rfl ?_
          refine Ops.nil ?_
          refine Then.next ?_
          refine Body.condT (lk rfl) ?_
          refine Body.region ?_
          refine Ops.u (Dtu.mv (lk rfl)) rfl ?_
          refine Ops.u (Dtu.mv (lk rfl)) rfl ?_
          refine Ops.u (Dtu.ix (i := (k)) Try.underlying25 Try.sizeOf35 (Sl.up hv) (lk rfl) (lk rfl) (by omega) (by omega)) rfl ?_
          refine Ops.u (Dtu.fld fa35_0 (lk rfl)) rfl ?_
          refine Ops.d (Det.ld Try.isAgg22 (lk rfl) (Rd.sl2 (Sl.up hv) (gfe (sz := 4) (fun _ => rfl) (by omega) rfl))) rfl ?_
          refine Ops.u (Dtu.asg (lk rfl)) rfl ?_
          refine Ops.nil ?_
          refine Then.next ?_
          refine Body.region ?_
          refine Ops.u (Dtu.mv (lk rfl)) rfl ?_
          refine Ops.s (Stp.call rfl Try.call13 (lks rfl) (fun E' le hat => floor_r E' _ _ (by first | exact At.mono (by assumption) le | exact hat _ (.head _) | exact hat _ (.tail _ (.head _)) | exact hat _ (.tail _ (.tail _ (.head _))) | exact hat _ (.tail _ (.tail _ (.tail _ (.head _)))) | exact hat _ (.tail _ (.tail _ (.tail _ (.tail _ (.head _))))) | exact hat _ (.tail _ (.tail _ (.tail _ (.tail _ (.tail _ (.head _)))))) | exact hat _ (.tail _ (.tail _ (.tail _ (.tail _ (.tail _ (.tail _ (.head _))))))) | exact hat _ (.tail _ (.tail _ (.tail _ (.tail _ (.tail _ (.tail _ (.tail _ (.head _)))))))) | exact hat _ (.tail _ (.tail _ (.tail _ (.tail _ (.tail _ (.tail _ (.tail _ (.tail _ (.head _))))))))) | exact hat _ (.tail _ (.tail _ (.tail _ (.tail _ (.tail _ (.tail _ (.tail _ (.tail _ (.tail _ (.head _)))))))))))) ?_) rfl
          rintro _ _ ⟨rfl, rfl⟩
          refine Ops.u (Dtu.asg (lk rfl)) rfl ?_
          refine Ops.nil ?_
          refine Blk.norm ?_
          refine Then.next ?_
          refine Body.region ?_
          refine Ops.u (Dtu.mv (lk rfl)) rfl ?_
          refine Ops.u (Dtu.add (lk rfl) (lk rfl) (w64 (by omega) (by omega))) rfl ?_
          refine Ops.u (Dtu.asg (lk rfl)) rfl ?_
          refine Ops.nil ?_
          refine Round.goL [1] (k + 1, T', l[k]!.id) rfl ⟨rfl, rfl, rfl, trivial⟩ rfl rfl ⟨hlt1, hlt2, p1, by dsimp only; omega⟩ (by dsimp only; omega)
        | false =>
          refine Body.seq ?_
          refine Body.seq ?_
          refine Body.region ?_
          refine Ops.u (Dtu.mv (lk rfl)) rfl ?_
          refine Ops.u (Dtu.mv (lk rfl)) rfl ?_
          refine Ops.u (Dtu.lenS Try.underlying25 (Sl.up hv) (lk rfl)) rfl ?_
          refine Ops.u (Dtu.lss (lk rfl) (lk rfl)) rfl ?_
          refine Ops.u (Dtu.mv (lk rfl)) rfl ?_
          refine Ops.decP 18 rfl (fun _ => ?_) (fun hn => absurd (by first | omega | assumption | decide) hn)
          refine Ops.gu rfl rfl rfl (Dtu.mv (lk rfl)) rfl ?_
          refine Ops.gu rfl rfl rfl (Dtu.lss (lk rfl) (lk rfl)) rfl ?_
          refine Ops.u (Dtu.pickT (lk rfl) (lk rfl)) rfl ?_
          refine Ops.nil ?_
          refine Then.next ?_
          refine Body.condP (lk rfl) (fun _ => ?_) (fun hn => absurd (by first | omega | assumption | decide) hn)
          refine Body.skip ?_
          refine Then.next ?_
          refine Body.seq ?_
          refine Body.block ?_
          refine Body.seq ?_
          refine Body.seq ?_
          refine Body.region ?_
          refine Ops.u (Dtu.mv (lk rfl)) rfl ?_
          refine Ops.u (Dtu.mv (lk rfl)) rfl ?_
          refine Ops.u (Dtu.ix (i := (k)) Try.underlying25 Try.sizeOf35 (Sl.up hv) (lk rfl) (lk rfl) (by omega) (by omega)) rfl ?_
          refine Ops.u (Dtu.fld fa35_3 (lk rfl)) rfl ?_
          refine Ops.d (Det.ld Try.isAgg23 (lk rfl) (Rd.sl2 (Sl.up hv) (gfe (sz := 4) (fun _ => rfl) (by omega) rfl))) rfl ?_
          refine Ops.u (Dtu.lenS Try.underlying23 (Sl.up hsk) (lk rfl)) rfl ?_
          refine Ops.u (Dtu.gtr (lk rfl) (lk rfl)) rfl ?_
          refine Ops.nil ?_
          refine Then.next ?_
          refine Body.condP (lk rfl) (fun hy => absurd hy (by first | omega | assumption | decide)) (fun _ => ?_)
          refine Body.skip ?_
          refine Then.next ?_
          refine Body.seq ?_
          refine Body.region ?_
          refine Ops.u (Dtu.mv (lk rfl)) rfl ?_
          refine Ops.u (Dtu.mv (lk rfl)) rfl ?_
          refine Ops.u (Dtu.mv (lk rfl)) rfl ?_
          refine Ops.u (Dtu.ix (i := (k)) Try.underlying25 Try.sizeOf35 (Sl.up hv) (lk rfl) (lk rfl) (by omega) (by omega)) rfl ?_
          refine Ops.d (Det.lda Try.isAgg35 Try.sizeOf35 (lk rfl) (Rds.sl (Sl.up hv) (gf (sz := 4) (fun _ => rfl) (by omega))) rfl) rfl ?_
          refine Ops.s (Stp.callOwn [0] rfl rfl Try.call12 (lks rfl) (fun E' le hat => tput_q E' _ _ _ _ _ _ l[k]! (hpk.mono le) hq) ?_) rfl
          rintro _ _ ⟨v38, rfl, rfl⟩
          refine Ops.u (Dtu.mv (lk rfl)) rfl ?_
          refine Ops.u (Dtu.ext (lk rfl) rfl) rfl ?_
          refine Ops.u (Dtu.ext (lk rfl) rfl) rfl ?_
          refine Ops.u (Dtu.ext (lk rfl) rfl) rfl ?_
          refine Ops.u (Dtu.asg (lk rfl)) rfl ?_
          refine Ops.u (Dtu.asg (lk rfl)) rfl ?_
          refine Ops.u (Dtu.asg (lk rfl)) rfl ?_
          refine Ops.nil ?_
          refine Then.next ?_
          refine Body.seq ?_
          refine Body.region ?_
          refine Ops.u (Dtu.mv (lk rfl)) rfl ?_
          refine Ops.s (Stp.callOwn [1] rfl rfl Try.call14 (lks rfl) (fun E' le hat => waits_t E' _ _) ?_) rfl
          rintro _ _ rfl
          refine Ops.u (Dtu.asg (lk rfl)) rfl ?_
          refine Ops.nil ?_
          refine Then.next ?_
          refine Body.seq ?_
          refine Body.seq ?_
          refine Body.draw mixed ?_
          refine AB.u 0 rfl (by decide +kernel) (Dtu.mv (lk rfl)) rfl ?_
          refine AB.u 1 rfl (by decide +kernel) (Dtu.lenS Try.underlying38 (Sl.osl 0 rfl) (lk rfl)) rfl ?_
          refine AB.u 2 rfl (by decide +kernel) (Dtu.gtr (lk rfl) (lk rfl)) rfl ?_
          refine AB.u 3 rfl (by decide +kernel) (Dtu.mv (lk rfl)) rfl ?_
          refine AB.decP 47 rfl (fun hy => absurd hy (by first | omega | assumption | decide)) (fun _ => ?_)
          refine AB.gu 4 rfl (by decide +kernel) rfl rfl rfl (Dtu.mv (lk rfl)) rfl ?_
          refine AB.gu 6 rfl (by decide +kernel) rfl rfl rfl (Dtu.mv (lk rfl)) rfl ?_
          refine AB.gs 5 rfl (by decide +kernel) (by decide +kernel) rfl rfl rfl (Stp.call rfl Try.call13 (lks rfl) (fun E' le hat => floor_r E' _ _ (by first | exact At.mono (by assumption) le | exact hat _ (.head _) | exact hat _ (.tail _ (.head _)) | exact hat _ (.tail _ (.tail _ (.head _))) | exact hat _ (.tail _ (.tail _ (.tail _ (.head _)))) | exact hat _ (.tail _ (.tail _ (.tail _ (.tail _ (.head _))))) | exact hat _ (.tail _ (.tail _ (.tail _ (.tail _ (.tail _ (.head _)))))) | exact hat _ (.tail _ (.tail _ (.tail _ (.tail _ (.tail _ (.tail _ (.head _))))))) | exact hat _ (.tail _ (.tail _ (.tail _ (.tail _ (.tail _ (.tail _ (.tail _ (.head _)))))))) | exact hat _ (.tail _ (.tail _ (.tail _ (.tail _ (.tail _ (.tail _ (.tail _ (.tail _ (.head _))))))))) | exact hat _ (.tail _ (.tail _ (.tail _ (.tail _ (.tail _ (.tail _ (.tail _ (.tail _ (.tail _ (.head _)))))))))))) ?_) rfl
          rintro _ _ ⟨rfl, rfl⟩
          refine AB.gu 7 rfl (by decide +kernel) rfl rfl rfl (Dtu.lss (lk rfl) (lk rfl)) rfl ?_
          refine AB.u 8 rfl (by decide +kernel) (Dtu.pickF (lk rfl) (lk rfl)) rfl ?_
          refine AB.u 9 rfl (by decide +kernel) (Dtu.mv (lk rfl)) rfl ?_
          refine AB.decP 53 rfl (fun hy => absurd hy (by first | omega | assumption | decide)) (fun _ => ?_)
          refine AB.gu 10 rfl (by decide +kernel) rfl rfl rfl (Dtu.mv (lk rfl)) rfl ?_
          refine AB.gu 11 rfl (by decide +kernel) rfl rfl rfl (Dtu.lenS Try.underlying38 (Sl.osl 0 rfl) (lk rfl)) rfl ?_
          refine AB.gu 12 rfl (by decide +kernel) rfl rfl rfl (Dtu.gtr (lk rfl) (lk rfl)) rfl ?_
          refine AB.gu 13 rfl (by decide +kernel) rfl rfl rfl (Dtu.mv (lk rfl)) rfl ?_
          refine AB.decP 57 rfl (fun hy => absurd hy (by first | omega | assumption | decide)) (fun _ => ?_)
          refine AB.gn 14 rfl (by decide +kernel) rfl rfl rfl rfl rfl ?_
          refine AB.gn 15 rfl (by decide +kernel) rfl rfl rfl rfl rfl ?_
          refine AB.gn 16 rfl (by decide +kernel) rfl rfl rfl rfl rfl ?_
          refine AB.gn 17 rfl (by decide +kernel) rfl rfl rfl rfl rfl ?_
          refine AB.gn 18 rfl (by decide +kernel) rfl rfl rfl rfl rfl ?_
          refine AB.gn 19 rfl (by decide +kernel) rfl rfl rfl rfl rfl ?_
          refine AB.gu 20 rfl (by decide +kernel) rfl rfl rfl (Dtu.pickF (lk rfl) (lk rfl)) rfl ?_
          refine AB.u 21 rfl (by decide +kernel) (Dtu.pickF (lk rfl) (lk rfl)) rfl ?_
          refine AB.u 22 rfl (by decide +kernel) (Dtu.mv (lk rfl)) rfl ?_
          refine AB.gu 23 rfl (by decide +kernel) rfl rfl rfl (Dtu.mv (lk rfl)) rfl ?_
          refine AB.gu 24 rfl (by decide +kernel) rfl rfl rfl (Dtu.mv (lk rfl)) rfl ?_
          refine AB.gn 25 rfl (by decide +kernel) rfl rfl rfl rfl rfl ?_
          refine AB.gn 26 rfl (by decide +kernel) rfl rfl rfl rfl rfl ?_
          refine AB.gn 27 rfl (by decide +kernel) rfl rfl rfl rfl rfl ?_
          refine AB.gn 28 rfl (by decide +kernel) rfl rfl rfl rfl rfl ?_
          refine AB.gn 29 rfl (by decide +kernel) rfl rfl rfl rfl rfl ?_
          refine AB.gn 30 rfl (by decide +kernel) rfl rfl rfl rfl rfl ?_
          refine AB.gn 31 rfl (by decide +kernel) rfl rfl rfl rfl rfl ?_
          refine AB.gn 32 rfl (by decide +kernel) rfl rfl rfl rfl rfl ?_
          refine AB.gn 33 rfl (by decide +kernel) rfl rfl rfl rfl rfl ?_
          refine AB.gn 34 rfl (by decide +kernel) rfl rfl rfl rfl rfl ?_
          refine AB.gn 35 rfl (by decide +kernel) rfl rfl rfl rfl rfl ?_
          refine AB.gu 36 rfl (by decide +kernel) rfl rfl rfl (Dtu.pickF (lk rfl) (lk rfl)) rfl ?_
          refine AB.u 37 rfl (by decide +kernel) (Dtu.pickF (lk rfl) (lk rfl)) rfl ?_
          refine AB.done (by decide +kernel) ?_
          refine Then.next ?_
          refine Body.condF (lk rfl) ?_
          refine Body.skip ?_
          refine Then.next ?_
          refine Body.seq ?_
          refine Body.seq ?_
          refine Body.region ?_
          refine Ops.u (Dtu.mv (lk rfl)) rfl ?_
          refine Ops.nil ?_
          refine Then.next ?_
          refine Body.condF (lk rfl) ?_
          refine Body.skip ?_
          refine Then.next ?_
          refine Body.region ?_
          refine Ops.u (Dtu.mv (lk rfl)) rfl ?_
          refine Ops.s (Stp.call rfl Try.call13 (lks rfl) (fun E' le hat => floor_r E' _ _ (by first | exact At.mono (by assumption) le | exact hat _ (.head _) | exact hat _ (.tail _ (.head _)) | exact hat _ (.tail _ (.tail _ (.head _))) | exact hat _ (.tail _ (.tail _ (.tail _ (.head _)))) | exact hat _ (.tail _ (.tail _ (.tail _ (.tail _ (.head _))))) | exact hat _ (.tail _ (.tail _ (.tail _ (.tail _ (.tail _ (.head _)))))) | exact hat _ (.tail _ (.tail _ (.tail _ (.tail _ (.tail _ (.tail _ (.head _))))))) | exact hat _ (.tail _ (.tail _ (.tail _ (.tail _ (.tail _ (.tail _ (.tail _ (.head _)))))))) | exact hat _ (.tail _ (.tail _ (.tail _ (.tail _ (.tail _ (.tail _ (.tail _ (.tail _ (.head _))))))))) | exact hat _ (.tail _ (.tail _ (.tail _ (.tail _ (.tail _ (.tail _ (.tail _ (.tail _ (.tail _ (.head _)))))))))))) ?_) rfl
          rintro _ _ ⟨rfl, rfl⟩
          refine Ops.u (Dtu.asg (lk rfl)) rfl ?_
          refine Ops.nil ?_
          refine Blk.norm ?_
          refine Then.next ?_
          refine Body.region ?_
          refine Ops.u (Dtu.mv (lk rfl)) rfl ?_
          refine Ops.u (Dtu.add (lk rfl) (lk rfl) (w64 (by omega) (by omega))) rfl ?_
          refine Ops.u (Dtu.asg (lk rfl)) rfl ?_
          refine Ops.nil ?_
          refine Round.goL [1] (k + 1, T', last) rfl ⟨rfl, rfl, rfl, trivial⟩ rfl rfl ⟨hlt1, hlt2, p1, by dsimp only; omega⟩ (by dsimp only; omega)
  · refine Body.seq ?_
    refine Body.seq ?_
    refine Body.region ?_
    refine Ops.u (Dtu.mv (lk rfl)) rfl ?_
    refine Ops.u (Dtu.mv (lk rfl)) rfl ?_
    refine Ops.u (Dtu.lenS Try.underlying25 (Sl.up hv) (lk rfl)) rfl ?_
    refine Ops.u (Dtu.lss (lk rfl) (lk rfl)) rfl ?_
    refine Ops.u (Dtu.mv (lk rfl)) rfl ?_
    refine Ops.decP 18 rfl (fun c18 => ?_) (fun c18 => ?_)
    · refine Ops.gu rfl rfl rfl (Dtu.mv (lk rfl)) rfl ?_
      refine Ops.gu rfl rfl rfl (Dtu.lss (lk rfl) (lk rfl)) rfl ?_
      refine Ops.u (Dtu.pickT (lk rfl) (lk rfl)) rfl ?_
      refine Ops.nil ?_
      refine Then.next ?_
      refine Body.condP (lk rfl) (fun hy => absurd hy (by first | omega | assumption | decide)) (fun _ => ?_)
      refine Body.exit ?_
      refine Then.exit ?_
      refine Round.exit ?_
      refine Blk.here ?_
      refine Then.next ?_
      refine Body.seq ?_
      refine Body.region ?_
      refine Ops.s (Stp.call rfl Try.call9 (lks rfl) (fun E' le hat => alive10_ok E') ?_) rfl
      rintro _ _ ⟨rfl, rfl⟩
      refine Ops.u (Dtu.asg (lk rfl)) rfl ?_
      refine Ops.nil ?_
      refine Then.next ?_
      refine Body.ret ?_
      exact ⟨.inr rfl, _, pk [] rfl, rfl, rfl⟩
    · refine Ops.gn rfl rfl rfl rfl rfl ?_
      refine Ops.gn rfl rfl rfl rfl rfl ?_
      refine Ops.u (Dtu.pickF (lk rfl) (lk rfl)) rfl ?_
      refine Ops.nil ?_
      refine Then.next ?_
      refine Body.condF (lk rfl) ?_
      refine Body.exit ?_
      refine Then.exit ?_
      refine Round.exit ?_
      refine Blk.here ?_
      refine Then.next ?_
      refine Body.seq ?_
      refine Body.region ?_
      refine Ops.s (Stp.call rfl Try.call9 (lks rfl) (fun E' le hat => alive10_ok E') ?_) rfl
      rintro _ _ ⟨rfl, rfl⟩
      refine Ops.u (Dtu.asg (lk rfl)) rfl ?_
      refine Ops.nil ?_
      refine Then.next ?_
      refine Body.ret ?_
      exact ⟨.inr rfl, _, pk [] rfl, rfl, rfl⟩
end Go.Proofs.Ytagcpamchgpgiaa
end
section
/- From a contract to the statement's conclusion: a call that writes nothing of what was there, and returns true. -/
namespace Go.Proofs.Ytagcpamchgpgiaa
set_option linter.unusedVariables false
open Go.Sx Go.ChangeShapes Go.RowKit Go.WideShapes Go.ChangeAt

theorem below_of_St {W W' : World} {H : List HProp} (s : St (envOf W) H W') : Below W.heap.size W W' where
  os := s.os
  tape := s.tape
  output := s.output
  block := fun k hk => by
    have h : W.heap[k]? = some W.heap[k] := Array.getElem?_eq_getElem hk
    have := s.keep k _ h
    rw [h]; exact this
  size := by
    by_cases h0 : W.heap.size = 0
    · omega
    · have hk : W.heap.size - 1 < W.heap.size := by omega
      have h : W.heap[W.heap.size - 1]? = some W.heap[W.heap.size - 1] := Array.getElem?_eq_getElem hk
      have h2 : W'.heap[W.heap.size - 1]? = some W.heap[W.heap.size - 1] := s.keep _ _ h
      have := (Array.getElem?_eq_some_iff.1 h2).1
      omega
section
variable {H : Type} {enc : TypeId × Value → H} {P : Program}
theorem trodAll_below (hl : laidOutB P = true) {W W' : World} (hb : Below W.heap.size W W') (sp : Nat → Bool) : ∀ {ts : List TypeId} {vs : List Value} {ds : List (DataW H)} {ps : List MemPlace},
    (∀ t ∈ ts, P.readableRec t = true ∧ t < P.types.size) → DataW.TrodAll enc P W 0 (fun _ => true) true ts vs ds ps → (∀ x ∈ ps, x.block < W.heap.size) → (∀ x ∈ ps, sp x.block = true) → DataW.TrodAll enc P W' 0 sp true ts vs ds ps
  | [], [], [], _, _, h, _, _ => h
  | t :: _, _ :: _, _ :: _, _, ht, ⟨p, q, h1, h2, e⟩, hlt, hs =>
    ⟨p, q, WideElems.Trod_stays hl (ht t (by simp)).1 (ht t (by simp)).2 h1 (fun x hx => hb.same (hlt x (by rw [e]; exact List.mem_append_left _ hx))) (fun x hx => hs x (by rw [e]; exact List.mem_append_left _ hx)),
      trodAll_below hl hb sp (fun t' ht' => ht t' (List.mem_cons_of_mem _ ht')) h2 (fun x hx => hlt x (by rw [e]; exact List.mem_append_right _ hx)) (fun x hx => hs x (by rw [e]; exact List.mem_append_right _ hx)), e⟩
theorem post_of_below {f : Func} {s : ChangeSpec} {apart fresh handsOn : Bool} {W W' : World} {args : Array Value} {ds gs : List (DataW H)} {before : List MemPlace} {tb : TypeId}
    (hvars : s.vars = []) (hfn : s.fn H ds = { results := [.lit (.bool true)], args := ds }) (hres : f.resultTypes = #[tb]) (hub : P.underlying tb = some .bool)
    (hl : laidOutB P = true) (hpar : ∀ t ∈ f.params.toList, P.readableRec t = true ∧ t < P.types.size)
    (hW : DataW.Whole enc P f.params.toList s.vars apart W args.toList ds gs before) (hb : Below W.heap.size W W') : s.post enc P f apart fresh handsOn false W args (.bool true) W' := by
  have hlt : ∀ x ∈ before, x.block < W.heap.size := fun x hx => by simpa using hW.lt x hx
  have hW' := hW
  obtain ⟨p, q, hA, hV, rfl, _, _⟩ := hW
  rw [hvars] at hV
  obtain ⟨rfl, rfl⟩ := trodVars_none hV
  rw [List.append_nil] at hW' hlt
  refine ⟨ds, [], p, [], p, [], hW', ?_, ?_, ?_, hb.frame _, fun h => by cases h⟩
  · rw [List.append_nil, hfn, hres]
    exact trodAll_cons_mk (shut_bool hub _) trodAll_mk0
  · rw [List.append_nil, hfn]
    exact trodAll_below hl hb _ hpar hA hlt (fun x hx => by simpa using hlt x hx)
  · rw [List.append_nil, hfn, hvars]; exact rfl
end
end Go.Proofs.Ytagcpamchgpgiaa
end
section
/- Parts as arguments. -/
namespace Go.Proofs.Ytagcpamchgpgiaa
set_option maxRecDepth 100000
set_option linter.unusedVariables false
set_option linter.unusedSimpArgs false
open Go.Sx Go.ChangeShapes Go.RowKit Go.WideShapes
section
variable {H : Type} {enc : TypeId × Value → H} {W : World} {base : Nat} {held : Bool} {fuel : Nat} {cs : List Value} {x : DataW H × List MemPlace}
theorem cells4_35 : Try.prog.cellsOf 35 = 4 := by kernel_rfl
theorem cells1_22 : Try.prog.cellsOf 22 = 1 := by kernel_rfl
theorem cells1_3 : Try.prog.cellsOf 3 = 1 := by kernel_rfl
structure Prt.In (p : Prt) (E : Env) : Prop where
  a : p.At E
  i : p.id ≤ 18446744073709551615
  b : ∀ x ∈ p.d, 0 ≤ x ∧ x ≤ 255
  x0 : -9223372036854775808 ≤ p.ix
  x1 : p.ix ≤ 9223372036854775807
  c0 : -9223372036854775808 ≤ p.ct
  c1 : p.ct ≤ 9223372036854775807
theorem trod_part (h : DataW.trod enc Try.prog W base (fun _ => true) held fuel 35 cs = some x) : ∃ p : Prt, cs = p.enc ∧ p.In (envOf W) := by
  have hl := lenT Try.underlying35 h
  rw [cells4_35] at hl
  match cs, hl with
  | [v0, v1, v2, v3], _ =>
    obtain ⟨n0, y0, h0⟩ := fldT Try.underlying35 h 0 22 0 1 rfl rfl rfl cells1_22
    obtain ⟨n1, y1, h1⟩ := fldT Try.underlying35 h 1 3 1 1 rfl rfl rfl cells1_3
    obtain ⟨n2, y2, h2⟩ := fldT Try.underlying35 h 2 3 2 1 rfl rfl rfl cells1_3
    obtain ⟨n3, y3, h3⟩ := fldT Try.underlying35 h 3 23 3 1 rfl rfl rfl cells1_23
    obtain ⟨a0, e0, _, w0⟩ := DataW.trod_int Try.underlying22 h0
    obtain ⟨a1, e1, _, w1⟩ := DataW.trod_int Try.underlying3 h1
    obtain ⟨a2, e2, _, w2⟩ := DataW.trod_int Try.underlying3 h2
    obtain ⟨s, d, e3, hs, hb⟩ := trod_bys h3
    have b0 := bounds_u64 w0
    have b1 := bounds_i64 w1
    have b2 := bounds_i64 w2
    simp at e0 e1 e2 e3
    subst e0 e1 e2 e3
    refine ⟨⟨a0.toNat, a1, a2, d, v3⟩, ?_, hs, by dsimp only; omega, hb, b1.1, b1.2, b2.1, b2.2⟩
    simp only [Prt.enc, Int.toNat_of_nonneg b0.1]
theorem trod_parts (h : DataW.trod enc Try.prog W base (fun _ => true) held fuel 25 cs = some x) : ∃ (s : Value) (l : List Prt), cs = [s] ∧ Sl (envOf W) [] 4 s l.length (l.flatMap Prt.enc) ∧ ∀ p ∈ l, p.In (envOf W) :=
  trod_list Try.underlying25 cells4_35 (by omega) (fun _ => rfl) (fun h => trod_part h) h
end
end Go.Proofs.Ytagcpamchgpgiaa
end
section
/- What a statement's bound on what comes in says of a slice's length. -/
namespace Go.Proofs.Ytagcpamchgpgiaa
set_option maxRecDepth 100000
set_option linter.unusedVariables false
set_option linter.unusedSimpArgs false
open Go.Sx Go.ChangeShapes Go.RowKit Go.WideShapes
section
variable {H : Type} {enc : TypeId × Value → H} {W : World} {base : Nat} {held : Bool} {fuel : Nat} {cs : List Value} {x : DataW H × List MemPlace}
theorem bulk_pos (d : DataW H) : 1 ≤ Rows.uptoBulk d := by
  cases d with
  | lit l => cases l <;> simp [Rows.uptoBulk]
  | nil => simp [Rows.uptoBulk]
  | ptr d => simp [Rows.uptoBulk]
  | slice a b => simp [Rows.uptoBulk]
  | agg a => simp [Rows.uptoBulk]
  | iface a b => simp [Rows.uptoBulk]
  | map a => simp [Rows.uptoBulk]
  | held a => simp [Rows.uptoBulk]
theorem bulkAll_len (l : List (DataW H)) : l.length ≤ Rows.uptoBulkAll l := by
  induction l with
  | nil => simp
  | cons d l ih => have := bulk_pos d; simp only [Rows.uptoBulkAll, List.length_cons]; omega
theorem bulkAll_mem {l : List (DataW H)} {d : DataW H} (h : d ∈ l) : Rows.uptoBulk d ≤ Rows.uptoBulkAll l := by
  induction l with
  | nil => cases h
  | cons e l ih =>
    simp only [Rows.uptoBulkAll]
    rcases List.mem_cons.1 h with rfl | h
    · omega
    · have := ih h; omega
theorem small_le {ds : List (DataW H)} {d : DataW H} (h : Rows.uptoSmall H ds = true) (hd : d ∈ ds) : Rows.uptoBulk d ≤ 1048576 := by
  have h1 : Rows.uptoBulkAll ds ≤ 1048576 := of_decide_eq_true h
  have := bulkAll_mem hd
  omega
theorem bulk_slice {P : Program} {sp : Nat → Bool} {t e : TypeId} {a : Option Addr} {len cap : Nat} {d : DataW H} {Pl : List MemPlace} (ht : P.underlying t = some (.slice e)) (h : DataW.trod enc P W base sp held fuel t [.slice a len cap] = some (d, Pl)) : len ≤ Rows.uptoBulk d := by
  rcases Go.Deep.open_slice ht h with ⟨h1, _⟩ | ⟨a', len', cap', m, n, D, Q, h1, _, _, _, _, h2, _⟩
  · simp at h1; omega
  · simp at h1 h2
    obtain ⟨h3, h4, h5⟩ := h1
    rw [h2.1]
    have := bulkAll_len ((List.range len').map D)
    simp only [List.length_map, List.length_range] at this
    simp only [Rows.uptoBulk]
    omega
end
end Go.Proofs.Ytagcpamchgpgiaa
end
section
/- JoinMakes: the walk. -/
namespace Go.Proofs.Ytagcpamchgpgiaa
set_option maxRecDepth 100000
set_option maxHeartbeats 4000000
set_option linter.unusedVariables false
set_option linter.unusedSimpArgs false
open Go.Sx
def stOf (id : Nat) (ps : List Prt) (came : List Bool) : Tb := if came.countP tbOf.id' < ps.length then tbOf id ps came else ⟨id + 1, []⟩
theorem came_cnt {came : List Bool} {k : Nat} (hk : k < came.length) (h : came[k]! = false) : (came.set k true).countP tbOf.id' = came.countP tbOf.id' + 1 := by
  rw [List.countP_set hk]
  rw [getElem!_pos came k hk] at h
  simp [h, tbOf.id']
theorem came_free {came : List Bool} {n : Nat} (hl : came.length = 64) (hn : n ≤ 64) (h : came.countP tbOf.id' < n) : ∃ j, j < n ∧ came[j]! = false := by
  rcases Classical.em (∃ j, j < n ∧ came[j]! = false) with h1 | h1
  · exact h1
  · exfalso
    have h2 : ∀ j, j < n → came[j]! = true := fun j hj => by
      cases hc : came[j]! with
      | true => rfl
      | false => exact absurd ⟨j, hj, hc⟩ h1
    have h3 : (came.take n).countP tbOf.id' = (came.take n).length := by
      rw [List.countP_eq_length]
      intro a ha
      obtain ⟨j, hj, rfl⟩ := List.getElem_of_mem ha
      have := h2 j (by simp at hj; omega)
      rw [getElem!_pos came j (by simp at hj; omega)] at this
      rw [List.getElem_take, this]; rfl
    have h4 : (came.take n).countP tbOf.id' ≤ came.countP tbOf.id' := by
      conv => rhs; rw [← List.take_append_drop n came]
      rw [List.countP_append]; omega
    rw [List.length_take] at h3
    omega
theorem came_set {came : List Bool} {k i : Nat} (h : (came.set k true)[i]! = true) : i = k ∨ came[i]! = true := by
  by_cases hk : i = k
  · exact .inl hk
  · right
    by_cases hl : i < came.length
    · rw [getElem!_pos _ i (by simpa using hl), List.getElem_set_ne (fun h => hk h.symm)] at h
      rw [getElem!_pos came i hl]; exact h
    · rw [getElem!_neg _ i (by simpa using hl)] at h; cases h
theorem came_none {n : Nat} : ∀ i, (List.replicate 64 false)[i]! = true → i < n := fun i h => by
  exfalso
  by_cases hi : i < 64
  · rw [getElem!_pos _ i (by simpa using hi), List.getElem_replicate] at h; cases h
  · rw [getElem!_neg _ i (by simpa using hi)] at h; cases h
theorem put_bool {came : List Bool} {k : Nat} (hk : k < came.length) : PutC (came.map Value.bool) k [.bool true] ((came.set k true).map Value.bool) := by
  obtain ⟨a, y, c, rfl, rfl⟩ := list_at came hk
  rw [set_at]
  have := putC_mk (a := a.map Value.bool) (bs := [.bool y]) (us := [.bool true]) (c := c.map Value.bool) (off := a.length) (by simp) rfl rfl
  simpa using this
theorem bool_at {came : List Bool} {k : Nat} (hk : k < came.length) : (came.map Value.bool)[k]? = some (.bool came[k]!) := by
  rw [List.getElem?_map, List.getElem?_eq_getElem hk, getElem!_pos came k hk]; rfl
theorem makes10_ok (E : Env) (id : Nat) (v1 v2 : Value) (fr od : List Int) (hf : Sl E [] 1 v1 fr.length (fr.map (.int .u8))) (ho : Sl E [] 1 v2 od.length (od.map (.int .u8))) (hb : ∀ b ∈ od, 0 ≤ b ∧ b ≤ 255) (hom : od.length ≤ 1048576) : Does Try.prog 3 #[.int .u64 (id : Nat), v1, v2] E ([]) fun r H' => r = .bool true ∧ H' = [] := by
  refine Does.pure hf.len fun hfl => ?_
  refine Does.pure ho.len fun hol => ?_
  by_cases hbig : 8000 < fr.length
  · refine Does.go _ _ Try.func3 rfl Try.ntmps3 rfl rfl ?_
    skip
    refine Body.seq ?_
    refine Body.region ?_
    refine Ops.u (Dtu.asg (lk rfl)) rfl ?_
    refine Ops.nil ?_
    refine Then.next ?_
    refine Body.seq ?_
    refine Body.seq ?_
    refine Body.region ?_
    refine Ops.u (Dtu.mv (lk rfl)) rfl ?_
    refine Ops.u (Dtu.lenS Try.underlying23 (Sl.up hf) (lk rfl)) rfl ?_
    refine Ops.u (Dtu.gtr (lk rfl) (lk rfl)) rfl ?_
    refine Ops.u (Dtu.mv (lk rfl)) rfl ?_
    refine Ops.decP 23 rfl (fun _ => ?_) (fun hn => absurd (by first | omega | assumption | decide) hn)
    refine Ops.gn rfl rfl rfl rfl rfl ?_
    refine Ops.gn rfl rfl rfl rfl rfl ?_
    refine Ops.u (Dtu.pickT (lk rfl) (lk rfl)) rfl ?_
    refine Ops.u (Dtu.mv (lk rfl)) rfl ?_
    refine Ops.gn rfl rfl rfl rfl rfl ?_
    refine Ops.gn rfl rfl rfl rfl rfl ?_
    refine Ops.u (Dtu.pickT (lk rfl) (lk rfl)) rfl ?_
    refine Ops.nil ?_
    refine Then.next ?_
    refine Body.condT (lk rfl) ?_
    refine Body.seq ?_
    refine Body.region ?_
    refine Ops.s (Stp.call rfl Try.call9 (lks rfl) (fun E' le hat => alive10_ok E') ?_) rfl
    rintro _ _ ⟨rfl, rfl⟩
    refine Ops.u (Dtu.asg (lk rfl)) rfl ?_
    refine Ops.nil ?_
    refine Then.next ?_
    refine Body.ret ?_
    refine Then.ret ?_
    exact ⟨.inr rfl, _, pk [] rfl, rfl, rfl⟩
  · by_cases hid1 : id < 1
    · refine Does.go _ _ Try.func3 rfl Try.ntmps3 rfl rfl ?_
      skip
      refine Body.seq ?_
      refine Body.region ?_
      refine Ops.u (Dtu.asg (lk rfl)) rfl ?_
      refine Ops.nil ?_
      refine Then.next ?_
      refine Body.seq ?_
      refine Body.seq ?_
      refine Body.region ?_
      refine Ops.u (Dtu.mv (lk rfl)) rfl ?_
      refine Ops.u (Dtu.lenS Try.underlying23 (Sl.up hf) (lk rfl)) rfl ?_
      refine Ops.u (Dtu.gtr (lk rfl) (lk rfl)) rfl ?_
      refine Ops.u (Dtu.mv (lk rfl)) rfl ?_
      refine Ops.decP 23 rfl (fun hy => absurd hy (by first | omega | assumption | decide)) (fun _ => ?_)
      refine Ops.gu rfl rfl rfl (Dtu.mv (lk rfl)) rfl ?_
      refine Ops.gu rfl rfl rfl (Dtu.lss (lk rfl) (lk rfl)) rfl ?_
      refine Ops.u (Dtu.pickF (lk rfl) (lk rfl)) rfl ?_
      refine Ops.u (Dtu.mv (lk rfl)) rfl ?_
      refine Ops.decP 27 rfl (fun _ => ?_) (fun hn => absurd (by first | omega | assumption | decide) hn)
      refine Ops.gn rfl rfl rfl rfl rfl ?_
      refine Ops.gn rfl rfl rfl rfl rfl ?_
      refine Ops.u (Dtu.pickT (lk rfl) (lk rfl)) rfl ?_
      refine Ops.nil ?_
      refine Then.next ?_
      refine Body.condT (lk rfl) ?_
      refine Body.seq ?_
      refine Body.region ?_
      refine Ops.s (Stp.call rfl Try.call9 (lks rfl) (fun E' le hat => alive10_ok E') ?_) rfl
      rintro _ _ ⟨rfl, rfl⟩
      refine Ops.u (Dtu.asg (lk rfl)) rfl ?_
      refine Ops.nil ?_
      refine Then.next ?_
      refine Body.ret ?_
      refine Then.ret ?_
      exact ⟨.inr rfl, _, pk [] rfl, rfl, rfl⟩
    · by_cases hid2 : 4611686018427387903 < id
      · refine Does.go _ _ Try.func3 rfl Try.ntmps3 rfl rfl ?_
        skip
        refine Body.seq ?_
        refine Body.region ?_
        refine Ops.u (Dtu.asg (lk rfl)) rfl ?_
        refine Ops.nil ?_
        refine Then.next ?_
        refine Body.seq ?_
        refine Body.seq ?_
        refine Body.region ?_
        refine Ops.u (Dtu.mv (lk rfl)) rfl ?_
        refine Ops.u (Dtu.lenS Try.underlying23 (Sl.up hf) (lk rfl)) rfl ?_
        refine Ops.u (Dtu.gtr (lk rfl) (lk rfl)) rfl ?_
        refine Ops.u (Dtu.mv (lk rfl)) rfl ?_
        refine Ops.decP 23 rfl (fun hy => absurd hy (by first | omega | assumption | decide)) (fun _ => ?_)
        refine Ops.gu rfl rfl rfl (Dtu.mv (lk rfl)) rfl ?_
        refine Ops.gu rfl rfl rfl (Dtu.lss (lk rfl) (lk rfl)) rfl ?_
        refine Ops.u (Dtu.pickF (lk rfl) (lk rfl)) rfl ?_
        refine Ops.u (Dtu.mv (lk rfl)) rfl ?_
        refine Ops.decP 27 rfl (fun hy => absurd hy (by first | omega | assumption | decide)) (fun _ => ?_)
        refine Ops.gu rfl rfl rfl (Dtu.mv (lk rfl)) rfl ?_
        refine Ops.gu rfl rfl rfl (Dtu.gtr (lk rfl) (lk rfl)) rfl ?_
        refine Ops.u (Dtu.pickF (lk rfl) (lk rfl)) rfl ?_
        refine Ops.nil ?_
        refine Then.next ?_
        refine Body.condP (lk rfl) (fun _ => ?_) (fun hn => absurd (by first | omega | assumption | decide) hn)
        refine Body.seq ?_
        refine Body.region ?_
        refine Ops.s (Stp.call rfl Try.call9 (lks rfl) (fun E' le hat => alive10_ok E') ?_) rfl
        rintro _ _ ⟨rfl, rfl⟩
        refine Ops.u (Dtu.asg (lk rfl)) rfl ?_
        refine Ops.nil ?_
        refine Then.next ?_
        refine Body.ret ?_
        refine Then.ret ?_
        exact ⟨.inr rfl, _, pk [] rfl, rfl, rfl⟩
      · refine Does.go _ _ Try.func3 rfl Try.ntmps3 rfl rfl ?_
        skip
        refine Body.seq ?_
        refine Body.region ?_
        refine Ops.u (Dtu.asg (lk rfl)) rfl ?_
        refine Ops.nil ?_
        refine Then.next ?_
        refine Body.seq ?_
        refine Body.seq ?_
        refine Body.region ?_
        refine Ops.u (Dtu.mv (lk rfl)) rfl ?_
        refine Ops.u (Dtu.lenS Try.underlying23 (Sl.up hf) (lk rfl)) rfl ?_
        refine Ops.u (Dtu.gtr (lk rfl) (lk rfl)) rfl ?_
        refine Ops.u (Dtu.mv (lk rfl)) rfl ?_
        refine Ops.decP 23 rfl (fun hy => absurd hy (by first | omega | assumption | decide)) (fun _ => ?_)
        refine Ops.gu rfl rfl rfl (Dtu.mv (lk rfl)) rfl ?_
        refine Ops.gu rfl rfl rfl (Dtu.lss (lk rfl) (lk rfl)) rfl ?_
        refine Ops.u (Dtu.pickF (lk rfl) (lk rfl)) rfl ?_
        refine Ops.u (Dtu.mv (lk rfl)) rfl ?_
        refine Ops.decP 27 rfl (fun hy => absurd hy (by first | omega | assumption | decide)) (fun _ => ?_)
        refine Ops.gu rfl rfl rfl (Dtu.mv (lk rfl)) rfl ?_
        refine Ops.gu rfl rfl rfl (Dtu.gtr (lk rfl) (lk rfl)) rfl ?_
        refine Ops.u (Dtu.pickF (lk rfl) (lk rfl)) rfl ?_
        refine Ops.nil ?_
        refine Then.next ?_
        refine Body.condP (lk rfl) (fun hy => absurd hy (by first | omega | assumption | decide)) (fun _ => ?_)
        refine Body.skip ?_
        refine Then.next ?_
        refine Body.seq ?_
        refine Body.region ?_
        refine Ops.u (Dtu.mv (lk rfl)) rfl ?_
        refine Ops.u (Dtu.mv (lk rfl)) rfl ?_
        refine Ops.s (Stp.call rfl Try.call10 (lks rfl) (fun E' le hat => split_ok E' id v1 fr (Sl.mono hf le) (by omega) (by omega) (by omega)) ?_) rfl
        rintro _ _ ⟨v35, ps35, L35, rfl, rfl, so35⟩
        refine Ops.u (Dtu.mv (lk rfl)) rfl ?_
        refine Ops.u (Dtu.ext (lk rfl) rfl) rfl ?_
        refine Ops.u (Dtu.ext (lk rfl) rfl) rfl ?_
        refine Ops.u (Dtu.asg (lk rfl)) rfl ?_
        refine Ops.u (Dtu.asg (lk rfl)) rfl ?_
        refine Ops.nil ?_
        refine Then.next ?_
        refine Body.seq ?_
        have hpl := so35.len
        have hcs : countS fr.length = max 1 ((fr.length + 479) / 480) := rfl
        have hst0 : stOf id ps35 (List.replicate 64 false) = ⟨1, []⟩ := if_pos (by rw [show (List.replicate 64 false).countP tbOf.id' = 0 by decide]; omega)
        refine Body.seq ?_
        refine Body.region ?_
        refine Ops.u (Dtu.mv (lk rfl)) rfl ?_
        refine Ops.u (Dtu.neq (lk rfl) (lk rfl)) rfl ?_
        refine Ops.u (Dtu.mv (lk rfl)) rfl ?_
        refine Ops.decP 40 rfl (fun hy => absurd hy (by first | omega | assumption | decide)) (fun _ => ?_)
        refine Ops.gu rfl rfl rfl (Dtu.mv (lk rfl)) rfl ?_
        refine Ops.gu rfl rfl rfl (Dtu.lenS Try.underlying25 (Sl.osl 0 rfl) (lk rfl)) rfl ?_
        refine Ops.gu rfl rfl rfl (Dtu.eql (lk rfl) (lk rfl)) rfl ?_
        refine Ops.u (Dtu.pickF (lk rfl) (lk rfl)) rfl ?_
        refine Ops.nil ?_
        refine Then.next ?_
        refine Body.condP (lk rfl) (fun hy => absurd hy (by first | omega | assumption | decide)) (fun _ => ?_)
        refine Body.skip ?_
        refine Then.next ?_
        refine Body.seq ?_
        refine Body.region ?_
        refine Ops.s (Stp.call rfl Try.call11 (lks rfl) (fun E' le hat => jnew_ok E') ?_) rfl
        rintro _ _ ⟨t45, rfl, rfl⟩
        refine Ops.u (Dtu.asg (lk rfl)) rfl ?_
        refine Ops.nil ?_
        refine Then.next ?_
        refine Body.seq ?_
        refine Body.region ?_
        refine Ops.s (Stp.alloc ty31 (fun b10 => ?_)) rfl
        refine Ops.nil ?_
        refine Then.next ?_
        refine Body.seq ?_
        refine Body.region ?_
        refine Ops.u (Dtu.mv (lk rfl)) rfl ?_
        refine Ops.u (Dtu.lenS Try.underlying25 (Sl.osl 2 rfl) (lk rfl)) rfl ?_
        refine Ops.u (Dtu.asg (lk rfl)) rfl ?_
        refine Ops.nil ?_
        refine Then.next ?_
        refine Body.seq ?_
        refine Body.seq ?_
        refine Body.region ?_
        refine Ops.u (Dtu.asg (lk rfl)) rfl ?_
        refine Ops.nil ?_
        refine Then.next ?_
        refine Body.block ?_
        refine Body.conseq (H' := [own b10 ((List.replicate 64 false).map Value.bool) 31, tabP t45 (stOf id ps35 (List.replicate 64 false)), osl 35 4 v35 ps35.length (ps35.flatMap Prt.enc), many L35]) (fun w s => by rw [hst0]; exact s) ?_
        refine Body.loopL (γ := Nat × List Bool) [0, 1, 2, 6, 7, 8, 9, 10] rfl (fun g => [(12, .int .i64 (g.1 : Nat)), (11, .int .i64 ((ps35.length - g.2.countP tbOf.id' : Nat) : Int))]) (fun g => [(0, own b10 (g.2.map Value.bool) 31), (1, tabP t45 (stOf id ps35 g.2))]) (fun _ => rfl) (fun _ _ => rfl) (fun g => g.2.length = 64 ∧ g.2.countP tbOf.id' ≤ ps35.length ∧ (∀ i, g.2[i]! = true → i < ps35.length) ∧ g.1 ≤ od.length + g.2.countP tbOf.id') (fun g => (od.length - g.1) + (ps35.length - g.2.countP tbOf.id')) ((0, List.replicate 64 false)) (⟨by simp, by simp [tbOf.id'], came_none, Nat.zero_le _⟩) ⟨rfl, rfl, trivial⟩ rfl ?_
        rintro ⟨i, came⟩ u ⟨hcl, hcc, hcb, hi⟩
        dsimp only at hcl hcc hcb hi ⊢
        by_cases hlt : came.countP tbOf.id' < ps35.length
        · have hst : stOf id ps35 came = tbOf id ps35 came := if_pos hlt
          rw [hst]
          obtain ⟨j0, hj0, hj1⟩ := came_free hcl (by omega) hlt
          have hr1 : Int.tmod (i : Nat) (ps35.length : Nat) = ((i % ps35.length : Nat) : Int) := rfl
          have hr2 := Nat.mod_lt i (y := ps35.length) (by omega)
          refine Body.seq ?_
          refine Body.seq ?_
          refine Body.region ?_
          refine Ops.u (Dtu.mv (lk rfl)) rfl ?_
          refine Ops.u (Dtu.gtr (lk rfl) (lk rfl)) rfl ?_
          refine Ops.nil ?_
          refine Then.next ?_
          refine Body.condP (lk rfl) (fun _ => ?_) (fun hn => absurd (by first | omega | assumption | decide) hn)
          refine Body.skip ?_
          refine Then.next ?_
          refine Body.seq ?_
          refine Body.block ?_
          refine Body.seq ?_
          refine Body.region ?_
          refine Ops.u (Dtu.mv (lk rfl)) rfl ?_
          refine Ops.u (Dtu.mv (lk rfl)) rfl ?_
          refine Ops.u (Dtu.lenS Try.underlying25 (Sl.osl 2 rfl) (lk rfl)) rfl ?_
          refine Ops.u (Dtu.rem (lk rfl) (lk rfl) (by first | decide | omega) (by with_reducible assumption)) rfl ?_
          refine Ops.u (Dtu.asg (lk rfl)) rfl ?_
          refine Ops.nil ?_
          refine Then.next ?_
          refine Body.seqL (γ := Nat) [0, 1, 2, 6, 7, 8, 9, 10, 11, 12] rfl (fun k => [(13, .int .i64 (k : Nat))]) (fun k => []) (fun _ => rfl) (fun _ _ => rfl) (fun k => k < ps35.length ∧ (od.length ≤ i → came[k]! = false)) ?_ ?_
          · by_cases hio : i < od.length
            · have hbi := hb od[i]! (by rw [getElem!_pos od i hio]; exact List.getElem_mem _)
              have hr3 : Int.tmod od[i]! (ps35.length : Nat) = ((od[i]!.toNat % ps35.length : Nat) : Int) := by
                conv => lhs; rw [← Int.toNat_of_nonneg hbi.1]
                rfl
              have hr4 := Nat.mod_lt od[i]!.toNat (y := ps35.length) (by omega)
              refine Body.seq ?_
              refine Body.region ?_
              refine Ops.u (Dtu.mv (lk rfl)) rfl ?_
              refine Ops.u (Dtu.mv (lk rfl)) rfl ?_
              refine Ops.u (Dtu.lenS Try.underlying23 (Sl.up ho) (lk rfl)) rfl ?_
              refine Ops.u (Dtu.lss (lk rfl) (lk rfl)) rfl ?_
              refine Ops.nil ?_
              refine Then.next ?_
              refine Body.condP (lk rfl) (fun _ => ?_) (fun hn => absurd (by first | omega | assumption | decide) hn)
              refine Body.region ?_
              refine Ops.u (Dtu.mv (lk rfl)) rfl ?_
              refine Ops.u (Dtu.mv (lk rfl)) rfl ?_
              refine Ops.u (Dtu.ix (i := (i)) Try.underlying23 Try.sizeOf5 (Sl.up ho) (lk rfl) (lk rfl) (by omega) (by omega)) rfl ?_
              refine Ops.d (Det.ld Try.isAgg5 (lk rfl) (Rd.sl (Sl.up ho) (gm (by omega)))) rfl ?_
              refine Ops.u (Dtu.cvt Try.underlying5 Try.underlying3 (lk rfl) (w64 (by omega) (by omega))) rfl ?_
              refine Ops.u (Dtu.mv (lk rfl)) rfl ?_
              refine Ops.u (Dtu.lenS Try.underlying25 (Sl.osl 2 rfl) (lk rfl)) rfl ?_
              refine Ops.u (Dtu.rem (lk rfl) (lk rfl) (by first | decide | omega) (by with_reducible assumption)) rfl ?_
              refine Ops.u (Dtu.asg (lk rfl)) rfl ?_
              refine Ops.nil ?_
              refine Joint.goL [0, 0, 0, 0] (od[i]!.toNat % ps35.length) rfl ⟨rfl, trivial⟩ rfl rfl ⟨hr4, fun h => by omega⟩
            · refine Body.seq ?_
              refine Body.region ?_
              refine Ops.u (Dtu.mv (lk rfl)) rfl ?_
              refine Ops.u (Dtu.mv (lk rfl)) rfl ?_
              refine Ops.u (Dtu.lenS Try.underlying23 (Sl.up ho) (lk rfl)) rfl ?_
              refine Ops.u (Dtu.lss (lk rfl) (lk rfl)) rfl ?_
              refine Ops.nil ?_
              refine Then.next ?_
              refine Body.condP (lk rfl) (fun hy => absurd hy (by first | omega | assumption | decide)) (fun _ => ?_)
              refine Body.seq ?_
              refine Body.region ?_
              refine Ops.u (Dtu.asg (lk rfl)) rfl ?_
              refine Ops.nil ?_
              refine Then.next ?_
              refine Body.block ?_
              refine Body.loopL (γ := Nat) [0, 1, 2, 6, 7, 8, 9, 10, 11, 12] rfl (fun q => [(13, .int .i64 (q : Nat))]) (fun q => []) (fun _ => rfl) (fun _ _ => rfl) (fun q => q ≤ j0 ∧ ∀ j, j < q → came[j]! = true) (fun q => j0 - q) (0) (⟨Nat.zero_le _, fun j hj => by omega⟩) ⟨rfl, trivial⟩ rfl ?_
              rintro q u3 ⟨hq1, hq2⟩
              have hqa := bool_at (came := came) (k := q) (by omega)
              cases hcq : came[q]! with
              | true =>
                have hne : q ≠ j0 := fun h => by rw [h, hj1] at hcq; cases hcq
                rw [hcq] at hqa
                refine Body.seq ?_
                refine Body.seq ?_
                refine Body.region ?_
                refine Ops.u (Dtu.mv (lk rfl)) rfl ?_
                refine Ops.u (Dtu.ixa (i := (q)) Try.underlying31 Try.sizeOf4 (lk rfl) (lk rfl) (by omega) (by omega)) rfl ?_
                refine Ops.d (Det.ld Try.isAgg4 (lk rfl) (Rd.ow 0 rfl (cellEq hqa (by omega)))) rfl ?_
                refine Ops.nil ?_
                refine Then.next ?_
                refine Body.condT (lk rfl) ?_
                refine Body.skip ?_
                refine Then.next ?_
                refine Body.block ?_
                refine Body.region ?_
                refine Ops.u (Dtu.mv (lk rfl)) rfl ?_
                refine Ops.u (Dtu.add (lk rfl) (lk rfl) (w64 (by omega) (by omega))) rfl ?_
                refine Ops.u (Dtu.asg (lk rfl)) rfl ?_
                refine Ops.nil ?_
                refine Blk.norm ?_
                refine Round.goL [0, 0, 0, 0] (q + 1) rfl ⟨rfl, trivial⟩ rfl rfl ⟨by omega, fun j hj => by by_cases h : j = q; (subst h; exact hcq); exact hq2 j (by omega)⟩ (by omega)
              | false =>
                rw [hcq] at hqa
                refine Body.seq ?_
                refine Body.seq ?_
                refine Body.region ?_
                refine Ops.u (Dtu.mv (lk rfl)) rfl ?_
                refine Ops.u (Dtu.ixa (i := (q)) Try.underlying31 Try.sizeOf4 (lk rfl) (lk rfl) (by omega) (by omega)) rfl ?_
                refine Ops.d (Det.ld Try.isAgg4 (lk rfl) (Rd.ow 0 rfl (cellEq hqa (by omega)))) rfl ?_
                refine Ops.nil ?_
                refine Then.next ?_
                refine Body.condF (lk rfl) ?_
                refine Body.exit ?_
                refine Then.exit ?_
                refine Round.exit ?_
                refine Blk.here ?_
                refine Joint.goL [0, 0, 0, 0] q rfl ⟨rfl, trivial⟩ rfl rfl ⟨by omega, fun _ => hcq⟩
          rintro k u4 ⟨hk, hkc⟩
          have hok := so35.own k hk
          have hqa := bool_at (came := came) (k := k) (by omega)
          have hqp := put_bool (came := came) (k := k) (by omega)
          cases hck : came[k]! with
          | true =>
            have hio : i < od.length := by
              rcases Nat.lt_or_ge i od.length with h | h
              · exact h
              · rw [hkc h] at hck; cases hck
            have hpa := put_again so35 (by omega) (by omega) (by omega) hk hck hcl
            rw [hck] at hqa
            refine Body.seq ?_
            refine Body.region ?_
            refine Ops.u (Dtu.mv (lk rfl)) rfl ?_
            refine Ops.u (Dtu.mv (lk rfl)) rfl ?_
            refine Ops.u (Dtu.mv (lk rfl)) rfl ?_
            refine Ops.u (Dtu.ix (i := (k)) Try.underlying25 Try.sizeOf35 (Sl.osl 2 rfl) (lk rfl) (lk rfl) (by omega) (by omega)) rfl ?_
            refine Ops.d (Det.lda Try.isAgg35 Try.sizeOf35 (lk rfl) (Rds.sl (Sl.osl 2 rfl) (gf (sz := 4) (fun _ => rfl) (by omega))) rfl) rfl ?_
            refine Ops.s (Stp.callOwn [1] rfl rfl Try.call12 (lks rfl) (fun E' le hat => tput_q E' _ _ _ _ _ _ ps35[k]! (poolSl (L := L35) (by first | exact At.mono (by assumption) le | exact hat _ (.head _) | exact hat _ (.tail _ (.head _)) | exact hat _ (.tail _ (.tail _ (.head _))) | exact hat _ (.tail _ (.tail _ (.tail _ (.head _)))) | exact hat _ (.tail _ (.tail _ (.tail _ (.tail _ (.head _))))) | exact hat _ (.tail _ (.tail _ (.tail _ (.tail _ (.tail _ (.head _)))))) | exact hat _ (.tail _ (.tail _ (.tail _ (.tail _ (.tail _ (.tail _ (.head _))))))) | exact hat _ (.tail _ (.tail _ (.tail _ (.tail _ (.tail _ (.tail _ (.tail _ (.head _)))))))) | exact hat _ (.tail _ (.tail _ (.tail _ (.tail _ (.tail _ (.tail _ (.tail _ (.tail _ (.head _))))))))) | exact hat _ (.tail _ (.tail _ (.tail _ (.tail _ (.tail _ (.tail _ (.tail _ (.tail _ (.tail _ (.head _))))))))))) hok) hpa) ?_) rfl
            rintro _ _ ⟨v79, rfl, rfl⟩
            refine Ops.u (Dtu.mv (lk rfl)) rfl ?_
            refine Ops.u (Dtu.ext (lk rfl) rfl) rfl ?_
            refine Ops.u (Dtu.ext (lk rfl) rfl) rfl ?_
            refine Ops.u (Dtu.ext (lk rfl) rfl) rfl ?_
            refine Ops.u (Dtu.asg (lk rfl)) rfl ?_
            refine Ops.u (Dtu.asg (lk rfl)) rfl ?_
            refine Ops.u (Dtu.asg (lk rfl)) rfl ?_
            refine Ops.nil ?_
            refine Then.next ?_
            refine Body.seq ?_
            refine Body.seq ?_
            refine Body.region ?_
            refine Ops.u (Dtu.mv (lk rfl)) rfl ?_
            refine Ops.u (Dtu.ixa (i := (k)) Try.underlying31 Try.sizeOf4 (lk rfl) (lk rfl) (by omega) (by omega)) rfl ?_
            refine Ops.d (Det.ld Try.isAgg4 (lk rfl) (Rd.ow 2 rfl (cellEq hqa (by omega)))) rfl ?_
            refine Ops.nil ?_
            refine Then.next ?_
            refine Body.condT (lk rfl) ?_
            refine Body.seq ?_
            refine Body.seq ?_
            refine Body.region ?_
            refine Ops.u (Dtu.mv (lk rfl)) rfl ?_
            refine Ops.u (Dtu.mv (lk rfl)) rfl ?_
            refine Ops.gu rfl rfl rfl (Dtu.mv (lk rfl)) rfl ?_
            refine Ops.gu rfl rfl rfl (Dtu.neq (lk rfl) (lk rfl)) rfl ?_
            refine Ops.u (Dtu.pickF (lk rfl) (lk rfl)) rfl ?_
            refine Ops.nil ?_
            refine Then.next ?_
            refine Body.condP (lk rfl) (fun hy => absurd hy (by first | omega | assumption | decide)) (fun _ => ?_)
            refine Body.skip ?_
            refine Then.next ?_
            refine Body.exit ?_
            refine Then.exit ?_
            refine Blk.here ?_
            refine Then.next ?_
            refine Body.region ?_
            refine Ops.u (Dtu.mv (lk rfl)) rfl ?_
            refine Ops.u (Dtu.add (lk rfl) (lk rfl) (w64 (by omega) (by omega))) rfl ?_
            refine Ops.u (Dtu.asg (lk rfl)) rfl ?_
            refine Ops.nil ?_
            refine Round.goL [2, 1, 1, 1] (i + 1, came) rfl ⟨rfl, rfl, trivial⟩ rfl (by (try dsimp only); rw [hst]) ⟨hcl, hcc, hcb, by dsimp only; omega⟩ (by dsimp only; omega)
          | false =>
            have hpn := put_next so35 (by omega) (by omega) (by omega) hk hck hcl hcb
            rw [hck] at hqa
            have hcn := came_cnt (by omega) hck
            have hcl2 : (came.set k true).length = 64 := by rw [List.length_set]; exact hcl
            have hcb2 : ∀ i, (came.set k true)[i]! = true → i < ps35.length := fun i h => (came_set h).elim (fun h => by omega) (hcb i)
            have hz11 : some (Value.int .i64 (((ps35.length - came.countP tbOf.id' : Nat) : Int) - 1)) = some (Value.int .i64 ((ps35.length - (came.set k true).countP tbOf.id' : Nat) : Int)) := congrArg (fun z => some (Value.int .i64 z)) (by omega)
            by_cases hlt2 : came.countP tbOf.id' + 1 < ps35.length
            · have hpa := hpn.trans (if_pos hlt2)
              have hst2 : stOf id ps35 (came.set k true) = tbOf id ps35 (came.set k true) := if_pos (by omega)
              refine Body.seq ?_
              refine Body.region ?_
              refine Ops.u (Dtu.mv (lk rfl)) rfl ?_
              refine Ops.u (Dtu.mv (lk rfl)) rfl ?_
              refine Ops.u (Dtu.mv (lk rfl)) rfl ?_
              refine Ops.u (Dtu.ix (i := (k)) Try.underlying25 Try.sizeOf35 (Sl.osl 2 rfl) (lk rfl) (lk rfl) (by omega) (by omega)) rfl ?_
              refine Ops.d (Det.lda Try.isAgg35 Try.sizeOf35 (lk rfl) (Rds.sl (Sl.osl 2 rfl) (gf (sz := 4) (fun _ => rfl) (by omega))) rfl) rfl ?_
              refine Ops.s (Stp.callOwn [1] rfl rfl Try.call12 (lks rfl) (fun E' le hat => tput_q E' _ _ _ _ _ _ ps35[k]! (poolSl (L := L35) (by first | exact At.mono (by assumption) le | exact hat _ (.head _) | exact hat _ (.tail _ (.head _)) | exact hat _ (.tail _ (.tail _ (.head _))) | exact hat _ (.tail _ (.tail _ (.tail _ (.head _)))) | exact hat _ (.tail _ (.tail _ (.tail _ (.tail _ (.head _))))) | exact hat _ (.tail _ (.tail _ (.tail _ (.tail _ (.tail _ (.head _)))))) | exact hat _ (.tail _ (.tail _ (.tail _ (.tail _ (.tail _ (.tail _ (.head _))))))) | exact hat _ (.tail _ (.tail _ (.tail _ (.tail _ (.tail _ (.tail _ (.tail _ (.head _)))))))) | exact hat _ (.tail _ (.tail _ (.tail _ (.tail _ (.tail _ (.tail _ (.tail _ (.tail _ (.head _))))))))) | exact hat _ (.tail _ (.tail _ (.tail _ (.tail _ (.tail _ (.tail _ (.tail _ (.tail _ (.tail _ (.head _))))))))))) hok) hpa) ?_) rfl
              rintro _ _ ⟨v79, rfl, rfl⟩
              refine Ops.u (Dtu.mv (lk rfl)) rfl ?_
              refine Ops.u (Dtu.ext (lk rfl) rfl) rfl ?_
              refine Ops.u (Dtu.ext (lk rfl) rfl) rfl ?_
              refine Ops.u (Dtu.ext (lk rfl) rfl) rfl ?_
              refine Ops.u (Dtu.asg (lk rfl)) rfl ?_
              refine Ops.u (Dtu.asg (lk rfl)) rfl ?_
              refine Ops.u (Dtu.asg (lk rfl)) rfl ?_
              refine Ops.nil ?_
              refine Then.next ?_
              refine Body.seq ?_
              refine Body.seq ?_
              refine Body.region ?_
              refine Ops.u (Dtu.mv (lk rfl)) rfl ?_
              refine Ops.u (Dtu.ixa (i := (k)) Try.underlying31 Try.sizeOf4 (lk rfl) (lk rfl) (by omega) (by omega)) rfl ?_
              refine Ops.d (Det.ld Try.isAgg4 (lk rfl) (Rd.ow 2 rfl (cellEq hqa (by omega)))) rfl ?_
              refine Ops.nil ?_
              refine Then.next ?_
              refine Body.condF (lk rfl) ?_
              refine Body.skip ?_
              refine Then.next ?_
              refine Body.seq ?_
              refine Body.region ?_
              refine Ops.u (Dtu.mv (lk rfl)) rfl ?_
              refine Ops.u (Dtu.ixa (i := (k)) Try.underlying31 Try.sizeOf4 (lk rfl) (lk rfl) (by omega) (by omega)) rfl ?_
              refine Ops.e (Stp.storeC 2 hqp (by omega) Try.sizeOf4 (lk rfl) (lk rfl) rfl rfl rfl rfl rfl ?_)
              refine Ops.nil ?_
              refine Then.next ?_
              refine Body.seq ?_
              refine Body.region ?_
              refine Ops.u (Dtu.mv (lk rfl)) rfl ?_
              refine Ops.u (Dtu.sub (lk rfl) (lk rfl) (w64 (by omega) (by omega))) rfl ?_
              refine Ops.u (Dtu.asg (lk rfl)) rfl ?_
              refine Ops.nil ?_
              refine Then.next ?_
              refine Body.seq ?_
              refine Body.region ?_
              refine Ops.u (Dtu.mv (lk rfl)) rfl ?_
              refine Ops.u (Dtu.neq (lk rfl) (lk rfl)) rfl ?_
              refine Ops.u (Dtu.mv (lk rfl)) rfl ?_
              refine Ops.decP 97 rfl (fun hy => absurd hy (by first | omega | assumption | decide)) (fun _ => ?_)
              refine Ops.gu rfl rfl rfl (Dtu.mv (lk rfl)) rfl ?_
              refine Ops.gu rfl rfl rfl (Dtu.mv (lk rfl)) rfl ?_
              refine Ops.gu rfl rfl rfl (Dtu.eql (lk rfl) (lk rfl)) rfl ?_
              refine Ops.gu rfl rfl rfl (Dtu.neB Try.underlying4 (lk rfl) (lk rfl)) rfl ?_
              refine Ops.u (Dtu.pickF (lk rfl) (lk rfl)) rfl ?_
              refine Ops.u (Dtu.mv (lk rfl)) rfl ?_
              refine Ops.decP 103 rfl (fun hy => absurd hy (nbneOf rfl (decide_eq_false (by first | omega | assumption | decide)) rfl)) (fun _ => ?_)
              refine Ops.gu rfl rfl rfl (Dtu.mv (lk rfl)) rfl ?_
              refine Ops.gu rfl rfl rfl (Dtu.mv (lk rfl)) rfl ?_
              refine Ops.gn rfl rfl rfl rfl rfl ?_
              refine Ops.gn rfl rfl rfl rfl rfl ?_
              refine Ops.gn rfl rfl rfl rfl rfl ?_
              refine Ops.gn rfl rfl rfl rfl rfl ?_
              refine Ops.gn rfl rfl rfl rfl rfl ?_
              refine Ops.gu rfl rfl rfl (Dtu.pickF (lk rfl) (lk rfl)) rfl ?_
              refine Ops.u (Dtu.pickF (lk rfl) (lk rfl)) rfl ?_
              refine Ops.nil ?_
              refine Then.next ?_
              refine Body.condF (lk rfl) ?_
              refine Body.skip ?_
              refine Blk.norm ?_
              refine Then.next ?_
              refine Body.region ?_
              refine Ops.u (Dtu.mv (lk rfl)) rfl ?_
              refine Ops.u (Dtu.add (lk rfl) (lk rfl) (w64 (by omega) (by omega))) rfl ?_
              refine Ops.u (Dtu.asg (lk rfl)) rfl ?_
              refine Ops.nil ?_
              refine Round.goL [2, 1, 1, 1] (i + 1, came.set k true) rfl ⟨rfl, hz11, trivial⟩ rfl (by (try dsimp only); rw [hst2]) ⟨hcl2, by dsimp only; omega, hcb2, by dsimp only; omega⟩ (by dsimp only; omega)
            · have hpa := hpn.trans (if_neg hlt2)
              have hst2 : stOf id ps35 (came.set k true) = ⟨id + 1, []⟩ := if_neg (by omega)
              refine Body.seq ?_
              refine Body.region ?_
              refine Ops.u (Dtu.mv (lk rfl)) rfl ?_
              refine Ops.u (Dtu.mv (lk rfl)) rfl ?_
              refine Ops.u (Dtu.mv (lk rfl)) rfl ?_
              refine Ops.u (Dtu.ix (i := (k)) Try.underlying25 Try.sizeOf35 (Sl.osl 2 rfl) (lk rfl) (lk rfl) (by omega) (by omega)) rfl ?_
              refine Ops.d (Det.lda Try.isAgg35 Try.sizeOf35 (lk rfl) (Rds.sl (Sl.osl 2 rfl) (gf (sz := 4) (fun _ => rfl) (by omega))) rfl) rfl ?_
              refine Ops.s (Stp.callOwn [1] rfl rfl Try.call12 (lks rfl) (fun E' le hat => tput_q E' _ _ _ _ _ _ ps35[k]! (poolSl (L := L35) (by first | exact At.mono (by assumption) le | exact hat _ (.head _) | exact hat _ (.tail _ (.head _)) | exact hat _ (.tail _ (.tail _ (.head _))) | exact hat _ (.tail _ (.tail _ (.tail _ (.head _)))) | exact hat _ (.tail _ (.tail _ (.tail _ (.tail _ (.head _))))) | exact hat _ (.tail _ (.tail _ (.tail _ (.tail _ (.tail _ (.head _)))))) | exact hat _ (.tail _ (.tail _ (.tail _ (.tail _ (.tail _ (.tail _ (.head _))))))) | exact hat _ (.tail _ (.tail _ (.tail _ (.tail _ (.tail _ (.tail _ (.tail _ (.head _)))))))) | exact hat _ (.tail _ (.tail _ (.tail _ (.tail _ (.tail _ (.tail _ (.tail _ (.tail _ (.head _))))))))) | exact hat _ (.tail _ (.tail _ (.tail _ (.tail _ (.tail _ (.tail _ (.tail _ (.tail _ (.tail _ (.head _))))))))))) hok) hpa) ?_) rfl
              rintro _ _ ⟨v79, rfl, rfl⟩
              refine Ops.u (Dtu.mv (lk rfl)) rfl ?_
              refine Ops.u (Dtu.ext (lk rfl) rfl) rfl ?_
              refine Ops.u (Dtu.ext (lk rfl) rfl) rfl ?_
              refine Ops.u (Dtu.ext (lk rfl) rfl) rfl ?_
              refine Ops.u (Dtu.asg (lk rfl)) rfl ?_
              refine Ops.u (Dtu.asg (lk rfl)) rfl ?_
              refine Ops.u (Dtu.asg (lk rfl)) rfl ?_
              refine Ops.nil ?_
              refine Then.next ?_
              refine Body.seq ?_
              refine Body.seq ?_
              refine Body.region ?_
              refine Ops.u (Dtu.mv (lk rfl)) rfl ?_
              refine Ops.u (Dtu.ixa (i := (k)) Try.underlying31 Try.sizeOf4 (lk rfl) (lk rfl) (by omega) (by omega)) rfl ?_
              refine Ops.d (Det.ld Try.isAgg4 (lk rfl) (Rd.ow 2 rfl (cellEq hqa (by omega)))) rfl ?_
              refine Ops.nil ?_
              refine Then.next ?_
              refine Body.condF (lk rfl) ?_
              refine Body.skip ?_
              refine Then.next ?_
              refine Body.seq ?_
              refine Body.region ?_
              refine Ops.u (Dtu.mv (lk rfl)) rfl ?_
              refine Ops.u (Dtu.ixa (i := (k)) Try.underlying31 Try.sizeOf4 (lk rfl) (lk rfl) (by omega) (by omega)) rfl ?_
              refine Ops.e (Stp.storeC 2 hqp (by omega) Try.sizeOf4 (lk rfl) (lk rfl) rfl rfl rfl rfl rfl ?_)
              refine Ops.nil ?_
              refine Then.next ?_
              refine Body.seq ?_
              refine Body.region ?_
              refine Ops.u (Dtu.mv (lk rfl)) rfl ?_
              refine Ops.u (Dtu.sub (lk rfl) (lk rfl) (w64 (by omega) (by omega))) rfl ?_
              refine Ops.u (Dtu.asg (lk rfl)) rfl ?_
              refine Ops.nil ?_
              refine Then.next ?_
              refine Body.seq ?_
              refine Body.region ?_
              refine Ops.u (Dtu.mv (lk rfl)) rfl ?_
              refine Ops.u (Dtu.neq (lk rfl) (lk rfl)) rfl ?_
              refine Ops.u (Dtu.mv (lk rfl)) rfl ?_
              refine Ops.decP 97 rfl (fun hy => absurd hy (by first | omega | assumption | decide)) (fun _ => ?_)
              refine Ops.gu rfl rfl rfl (Dtu.mv (lk rfl)) rfl ?_
              refine Ops.gu rfl rfl rfl (Dtu.mv (lk rfl)) rfl ?_
              refine Ops.gu rfl rfl rfl (Dtu.eql (lk rfl) (lk rfl)) rfl ?_
              refine Ops.gu rfl rfl rfl (Dtu.neB Try.underlying4 (lk rfl) (lk rfl)) rfl ?_
              refine Ops.u (Dtu.pickF (lk rfl) (lk rfl)) rfl ?_
              refine Ops.u (Dtu.mv (lk rfl)) rfl ?_
              refine Ops.decP 103 rfl (fun hy => absurd hy (nbneOf rfl (decide_eq_true (by first | omega | assumption | decide)) rfl)) (fun _ => ?_)
              refine Ops.gu rfl rfl rfl (Dtu.mv (lk rfl)) rfl ?_
              refine Ops.gu rfl rfl rfl (Dtu.mv (lk rfl)) rfl ?_
              refine Ops.gu rfl rfl rfl (Dtu.mv (lk rfl)) rfl ?_
              refine Ops.gd rfl rfl rfl (Det.bstr Try.underlying23 Try.underlying5 Try.underlying9 (lk rfl) (Sl.osl 0 rfl)) rfl ?_
              refine Ops.gu rfl rfl rfl (Dtu.mv (lk rfl)) rfl ?_
              refine Ops.gd rfl rfl rfl (Det.bstr Try.underlying23 Try.underlying5 Try.underlying9 (lk rfl) (Sl.up hf)) rfl ?_
              refine Ops.gu rfl rfl rfl (Dtu.neStr (lk rfl) (lk rfl)) rfl ?_
              refine Ops.gu rfl rfl rfl (Dtu.pickT (lk rfl) (lk rfl)) rfl ?_
              refine Ops.u (Dtu.pickF (lk rfl) (lk rfl)) rfl ?_
              refine Ops.nil ?_
              refine Then.next ?_
              refine Body.condP (lk rfl) (fun c112 => ?_) (fun c112 => ?_)
              · refine Body.seq ?_
                refine Body.region ?_
                refine Ops.u (Dtu.asg (lk rfl)) rfl ?_
                refine Ops.nil ?_
                refine Then.next ?_
                refine Body.ret ?_
                refine Blk.ret ?_
                refine Then.ret ?_
                refine Round.ret ?_
                refine Blk.ret ?_
                refine Then.ret ?_
                exact absurd rfl c112
              · refine Body.skip ?_
                refine Blk.norm ?_
                refine Then.next ?_
                refine Body.region ?_
                refine Ops.u (Dtu.mv (lk rfl)) rfl ?_
                refine Ops.u (Dtu.add (lk rfl) (lk rfl) (w64 (by omega) (by omega))) rfl ?_
                refine Ops.u (Dtu.asg (lk rfl)) rfl ?_
                refine Ops.nil ?_
                refine Round.goL [2, 1, 1, 1] (i + 1, came.set k true) rfl ⟨rfl, hz11, trivial⟩ rfl (by (try dsimp only); rw [hst2]) ⟨hcl2, by dsimp only; omega, hcb2, by dsimp only; omega⟩ (by dsimp only; omega)
        · have hst : stOf id ps35 came = ⟨id + 1, []⟩ := if_neg hlt
          rw [hst]
          have ho0 := so35.own 0 (by omega)
          have hpz := put_old (k := 0) so35 (by omega) (by omega) (by omega) (by omega)
          refine Body.seq ?_
          refine Body.seq ?_
          refine Body.region ?_
          refine Ops.u (Dtu.mv (lk rfl)) rfl ?_
          refine Ops.u (Dtu.gtr (lk rfl) (lk rfl)) rfl ?_
          refine Ops.nil ?_
          refine Then.next ?_
          refine Body.condP (lk rfl) (fun hy => absurd hy (by first | omega | assumption | decide)) (fun _ => ?_)
          refine Body.exit ?_
          refine Then.exit ?_
          refine Round.exit ?_
          refine Blk.here ?_
          refine Then.next ?_
          refine Body.seq ?_
          refine Body.region ?_
          refine Ops.u (Dtu.mv (lk rfl)) rfl ?_
          refine Ops.u (Dtu.mv (lk rfl)) rfl ?_
          refine Ops.u (Dtu.ix (i := 0) Try.underlying25 Try.sizeOf35 (Sl.osl 2 rfl) (lk rfl) (lk rfl) (by omega) (by omega)) rfl ?_
          refine Ops.d (Det.lda Try.isAgg35 Try.sizeOf35 (lk rfl) (Rds.sl (Sl.osl 2 rfl) (gf (sz := 4) (fun _ => rfl) (by omega))) rfl) rfl ?_
          refine Ops.s (Stp.callOwn [1] rfl rfl Try.call12 (lks rfl) (fun E' le hat => tput_q E' _ _ _ _ _ _ ps35[0]! (poolSl (L := L35) (by first | exact At.mono (by assumption) le | exact hat _ (.head _) | exact hat _ (.tail _ (.head _)) | exact hat _ (.tail _ (.tail _ (.head _))) | exact hat _ (.tail _ (.tail _ (.tail _ (.head _)))) | exact hat _ (.tail _ (.tail _ (.tail _ (.tail _ (.head _))))) | exact hat _ (.tail _ (.tail _ (.tail _ (.tail _ (.tail _ (.head _)))))) | exact hat _ (.tail _ (.tail _ (.tail _ (.tail _ (.tail _ (.tail _ (.head _))))))) | exact hat _ (.tail _ (.tail _ (.tail _ (.tail _ (.tail _ (.tail _ (.tail _ (.head _)))))))) | exact hat _ (.tail _ (.tail _ (.tail _ (.tail _ (.tail _ (.tail _ (.tail _ (.tail _ (.head _))))))))) | exact hat _ (.tail _ (.tail _ (.tail _ (.tail _ (.tail _ (.tail _ (.tail _ (.tail _ (.tail _ (.head _))))))))))) ho0) hpz) ?_) rfl
          rintro _ _ ⟨v118, rfl, rfl⟩
          refine Ops.u (Dtu.mv (lk rfl)) rfl ?_
          refine Ops.u (Dtu.ext (lk rfl) rfl) rfl ?_
          refine Ops.u (Dtu.ext (lk rfl) rfl) rfl ?_
          refine Ops.u (Dtu.ext (lk rfl) rfl) rfl ?_
          refine Ops.u (Dtu.asg (lk rfl)) rfl ?_
          refine Ops.u (Dtu.asg (lk rfl)) rfl ?_
          refine Ops.u (Dtu.asg (lk rfl)) rfl ?_
          refine Ops.nil ?_
          refine Then.next ?_
          refine Body.seq ?_
          refine Body.region ?_
          refine Ops.s (Stp.call rfl Try.call9 (lks rfl) (fun E' le hat => alive10_ok E') ?_) rfl
          rintro _ _ ⟨rfl, rfl⟩
          refine Ops.u (Dtu.mv (lk rfl)) rfl ?_
          refine Ops.gu rfl rfl rfl (Dtu.mv (lk rfl)) rfl ?_
          refine Ops.gu rfl rfl rfl (Dtu.eql (lk rfl) (lk rfl)) rfl ?_
          refine Ops.u (Dtu.pickT (lk rfl) (lk rfl)) rfl ?_
          refine Ops.u (Dtu.asg (lk rfl)) rfl ?_
          refine Ops.nil ?_
          refine Then.next ?_
          refine Body.ret ?_
          exact ⟨.inr rfl, _, pk [] rfl, rfl, rfl⟩
end Go.Proofs.Ytagcpamchgpgiaa
end
section
/- 'Rows.JoinMakesUptoSaid': longlinelaw10.JoinMakes returns true, whatever number, frame and order come in, where what comes in is of bulk at most 1048576; they read as they did. -/
namespace Go.Proofs.Ytagcpamchgpgiaa.joinMakes
open Go.Sx Go.ChangeShapes Go.WideShapes Go.ChangeAt Go.RowKit
set_option linter.unusedVariables false

theorem own : ownKnob Try.prog.godebug = none := by kernel_rfl
theorem laidOut : laidOutB Try.prog = true := by kernel_rfl
theorem pars : (Try.f3.params.toList.all fun t => Try.prog.readableRec t && decide (t < Try.prog.types.size)) = true := by kernel_rfl

set_option maxRecDepth 100000 in
theorem lifted (os : Os) (started : os.Started) (H : Type) (enc : TypeId × Value → H) (F : Stop.Interp) :
    ReturnsInHanded {} Try.checked os 3 .any ((Rows.OpenSpec.upto Rows.joinMakesSpec).pre6 enc Try.prog Try.f3 Rows.joinMakesUptoRow.domain false) (((Rows.OpenSpec.upto Rows.joinMakesSpec).at F).post enc Try.prog Try.f3 false true false false) := by
  refine returnsInHanded_of_cond (C := Try.checked) (k := Rows.uptoSmall) rfl own started (by kernel_rfl) Try.func3
    (OpenSpec.witness (enc := enc) (C := Try.checked) (k := Rows.uptoSmall) (s := Rows.OpenSpec.upto Rows.joinMakesSpec) rfl false ⟨#[], #[.int .u64 0, .slice none 0 0, .slice none 0 0], []⟩ 8 (by kernel_rfl) (by kernel_rfl) (by kernel_rfl) (x := ([.lit (.int .u64 0), .nil, .nil], [], [])) (by kernel_rfl) (by kernel_rfl) (by simp [Rows.uptoSmall, Rows.uptoBulkAll, Rows.uptoBulk])) ?_
  intro W base args ds gs before hval0 hW hcnd hkk _
  have hval : ∀ (j : Nat) t v, Try.f3.params[j]? = some t → args[j]? = some v → Value.okWide Try.prog W .any base t v := hval0
  have hW' := hW
  obtain ⟨p, q, hA0, hV, rfl, hfz, hnd⟩ := hW
  have hA : DataW.TrodAll enc Try.prog W 0 (fun _ => true) true Try.f3.params.toList args.toList ds p := hA0
  rw [Try.params3] at hA hval
  obtain ⟨v0, vs0, d0, ds0, p0, q0, hargs, rfl, rfl, h0, r0⟩ := trodAll_cons hA
  obtain ⟨v1, vs1, d1, ds1, p1, q1, rfl, rfl, rfl, h1, r1⟩ := trodAll_cons r0
  obtain ⟨v2, vs2, d2, ds2, p2, q2, rfl, rfl, rfl, h2, r2⟩ := trodAll_cons r1
  obtain ⟨rfl, rfl, rfl⟩ := trodAll_nil r2
  obtain rfl : args = #[v0, v1, v2] := by cases args; simp_all
  obtain ⟨k0', rfl⟩ := okWide_int Try.underlying22 (hval 0 22 v0 rfl rfl)
  obtain ⟨n0, h0'⟩ := h0
  obtain ⟨a0, e0, _, w0⟩ := DataW.trod_int Try.underlying22 h0'
  have b0 := bounds_u64 w0
  obtain rfl : k0' = a0 := by have e1 : [Value.int .u64 k0'] = [Value.int .u64 a0] := e0; simpa using e1
  obtain ⟨k0, rfl⟩ := Int.eq_ofNat_of_zero_le b0.1
  obtain ⟨a1, ln1, cp1, rfl⟩ := okWide_slice Try.underlying23 (hval 1 23 v1 rfl rfl)
  obtain ⟨n1, h1'⟩ := h1
  obtain ⟨s1, f1, es1, hs1, hb1⟩ := trod_bys (cs := [.slice a1 ln1 cp1]) h1'
  obtain rfl : Value.slice a1 ln1 cp1 = s1 := by simpa using es1
  obtain ⟨a2, ln2, cp2, rfl⟩ := okWide_slice Try.underlying23 (hval 2 23 v2 rfl rfl)
  obtain ⟨n2, h2'⟩ := h2
  obtain ⟨s2, f2, es2, hs2, hb2⟩ := trod_bys (cs := [.slice a2 ln2 cp2]) h2'
  obtain rfl : Value.slice a2 ln2 cp2 = s2 := by simpa using es2
  have hom : f2.length ≤ 1048576 := by
    have h3 := Sl.litLen hs2 W St.all
    have h4 := bulk_slice (cap := cp2) Try.underlying23 h2'
    have h5 := small_le hkk (d := d2) (by simp)
    omega
  refine (makes10_ok (envOf W) k0 _ _ f1 f2 hs1 hs2 hb2 hom W St.all).mono ?_
  rintro e W' ⟨r, H', rfl, ⟨rfl, rfl⟩, s'⟩
  refine ⟨_, rfl, post_of_below (tb := 4) rfl rfl rfl Try.underlying4 laidOut (fun t ht => ?_) hW' (below_of_St s')⟩
  · have := List.all_eq_true.1 pars t ht
    rw [Bool.and_eq_true, decide_eq_true_eq] at this
    exact this

theorem over : Rows.joinMakesUptoRow.holds Try.pinned (Rows.OpenSpec.upto Rows.joinMakesSpec) :=
  OpenClaim.holds_of_cond 3 Try.f3 rfl rfl rfl rfl rfl rfl rfl ⟨rfl, rfl, rfl, rfl, rfl⟩ rfl rfl rfl rfl rfl (by kernel_rfl) Try.func3 (by kernel_rfl)
    (of_decide_eq_true (by kernel_rfl)) (by unfold Func.isWrapper; first | (rw [if_pos (by decide +kernel)]; kernel_rfl) | (rw [if_neg (by decide +kernel)]; exact ⟨rfl, rfl⟩))
    (fun os started H enc _ F => lifted os started H enc F)

theorem proved : Rows.JoinMakesUptoSaid := over
end Go.Proofs.Ytagcpamchgpgiaa.joinMakes
end
