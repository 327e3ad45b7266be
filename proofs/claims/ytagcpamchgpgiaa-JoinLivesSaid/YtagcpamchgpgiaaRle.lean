/- QNl: JoiM, JlivesP. -/
import Derived.Test.YtagcpamchgpgiaaRla
import Derived.Test.YtagcpamchgpgiaaRlb
import Derived.Test.YtagcpamchgpgiaaRlc
import Derived.Test.YtagcpamchgpgiaaRld
section
/- JoinLives: the walk. -/
namespace Go.Proofs.Ytagcpamchgpgiaa
set_option maxRecDepth 100000
set_option maxHeartbeats 4000000
set_option linter.unusedVariables false
set_option linter.unusedSimpArgs false
open Go.Sx
theorem made_nil (E : Env) : Does Try.prog 39 #[.pointer none] E ([]) fun r H' => r = .bool false ∧ H' = [] := by
  refine Does.go _ _ Try.func39 rfl Try.ntmps39 rfl rfl ?_
  skip
  refine Body.seq ?_
  refine Body.region ?_
  refine Ops.u (Dtu.asg (lk rfl)) rfl ?_
  refine Ops.nil ?_
  refine Then.next ?_
  refine Body.seq ?_
  refine Body.region ?_
  refine Ops.u (Dtu.mv (lk rfl)) rfl ?_
  refine Ops.u (Dtu.neNil Try.underlying29 (lk rfl) (lk rfl)) rfl ?_
  refine Ops.u (Dtu.mv (lk rfl)) rfl ?_
  refine Ops.gn rfl rfl rfl rfl rfl ?_
  refine Ops.gn rfl rfl rfl rfl rfl ?_
  refine Ops.gn rfl rfl rfl rfl rfl ?_
  refine Ops.gn rfl rfl rfl rfl rfl ?_
  refine Ops.gn rfl rfl rfl rfl rfl ?_
  refine Ops.u (Dtu.pickF (lk rfl) (lk rfl)) rfl ?_
  refine Ops.u (Dtu.asg (lk rfl)) rfl ?_
  refine Ops.nil ?_
  refine Then.next ?_
  refine Body.ret ?_
  exact ⟨.inr rfl, _, pk [] rfl, rfl, rfl⟩
theorem made_zero (E : Env) (b : Nat) (hA : At (own b [.int .u64 0, .map none] 52) E) : Does Try.prog 39 #[.pointer (some ⟨b, 0, none⟩)] E ([]) fun r H' => r = .bool false ∧ H' = [] := by
  refine Does.go _ _ Try.func39 rfl Try.ntmps39 rfl rfl ?_
  skip
  refine Body.seq ?_
  refine Body.region ?_
  refine Ops.u (Dtu.asg (lk rfl)) rfl ?_
  refine Ops.nil ?_
  refine Then.next ?_
  refine Body.seq ?_
  refine Body.region ?_
  refine Ops.u (Dtu.mv (lk rfl)) rfl ?_
  refine Ops.u (Dtu.neNil Try.underlying29 (lk rfl) (lk rfl)) rfl ?_
  refine Ops.u (Dtu.mv (lk rfl)) rfl ?_
  refine Ops.gu rfl rfl rfl (Dtu.mv (lk rfl)) rfl ?_
  refine Ops.gu rfl rfl rfl (Dtu.nilck (lk rfl)) rfl ?_
  refine Ops.gu rfl rfl rfl (Dtu.fld fa52_1 (lk rfl)) rfl ?_
  refine Ops.gd rfl rfl rfl (Det.ld Try.isAgg50 (lk rfl) (Rd.env (own_at hA rfl))) rfl ?_
  refine Ops.gu rfl rfl rfl (Dtu.neNilM Try.underlying50 (lk rfl) (lk rfl)) rfl ?_
  refine Ops.u (Dtu.pickT (lk rfl) (lk rfl)) rfl ?_
  refine Ops.u (Dtu.asg (lk rfl)) rfl ?_
  refine Ops.nil ?_
  refine Then.next ?_
  refine Body.ret ?_
  exact ⟨.inr rfl, _, pk [] rfl, rfl, rfl⟩
theorem put_nil (E : Env) (p : Value) : Does Try.prog 12 #[.pointer none, p] E ([]) fun r H' => r = .tuple #[.slice none 0 0, .bool false, .int .i64 6] ∧ H' = [] := by
  refine Does.go _ _ Try.func12 rfl Try.ntmps12 rfl rfl ?_
  skip
  refine Body.seq ?_
  refine Body.region ?_
  refine Ops.s (Stp.box (lk rfl) rfl (fun b3 => ?_)) rfl
  refine Ops.u (Dtu.asg (lk rfl)) rfl ?_
  refine Ops.u (Dtu.asg (lk rfl)) rfl ?_
  refine Ops.u (Dtu.asg (lk rfl)) rfl ?_
  refine Ops.nil ?_
  refine Then.next ?_
  refine Body.seq ?_
  refine Body.block ?_
  refine Body.seq ?_
  refine Body.region ?_
  refine Ops.u (Dtu.mv (lk rfl)) rfl ?_
  refine Ops.s (Stp.call rfl Try.call39 (lks rfl) (fun E' le hat => made_nil E') ?_) rfl
  rintro _ _ ⟨rfl, rfl⟩
  refine Ops.u (Dtu.not (lk rfl)) rfl ?_
  refine Ops.u (Dtu.asg (lk rfl)) rfl ?_
  refine Ops.nil ?_
  refine Then.next ?_
  refine Body.condT (lk rfl) ?_
  refine Body.seq ?_
  refine Body.region ?_
  refine Ops.u (Dtu.asg (lk rfl)) rfl ?_
  refine Ops.u (Dtu.asg (lk rfl)) rfl ?_
  refine Ops.u (Dtu.asg (lk rfl)) rfl ?_
  refine Ops.nil ?_
  refine Then.next ?_
  refine Body.ret ?_
  refine Blk.ret ?_
  refine Then.ret ?_
  exact ⟨.inr rfl, _, pk [] rfl, rfl, rfl⟩
theorem put_zero (E : Env) (b : Nat) (p : Value) (hA : At (own b [.int .u64 0, .map none] 52) E) : Does Try.prog 12 #[.pointer (some ⟨b, 0, none⟩), p] E ([]) fun r H' => r = .tuple #[.slice none 0 0, .bool false, .int .i64 6] ∧ H' = [] := by
  refine Does.go _ _ Try.func12 rfl Try.ntmps12 rfl rfl ?_
  skip
  refine Body.seq ?_
  refine Body.region ?_
  refine Ops.s (Stp.box (lk rfl) rfl (fun b3 => ?_)) rfl
  refine Ops.u (Dtu.asg (lk rfl)) rfl ?_
  refine Ops.u (Dtu.asg (lk rfl)) rfl ?_
  refine Ops.u (Dtu.asg (lk rfl)) rfl ?_
  refine Ops.nil ?_
  refine Then.next ?_
  refine Body.seq ?_
  refine Body.block ?_
  refine Body.seq ?_
  refine Body.region ?_
  refine Ops.u (Dtu.mv (lk rfl)) rfl ?_
  refine Ops.s (Stp.call rfl Try.call39 (lks rfl) (fun E' le hat => made_zero E' _ (by first | exact At.mono (by assumption) le | exact hat _ (.head _) | exact hat _ (.tail _ (.head _)) | exact hat _ (.tail _ (.tail _ (.head _))) | exact hat _ (.tail _ (.tail _ (.tail _ (.head _)))) | exact hat _ (.tail _ (.tail _ (.tail _ (.tail _ (.head _))))) | exact hat _ (.tail _ (.tail _ (.tail _ (.tail _ (.tail _ (.head _)))))) | exact hat _ (.tail _ (.tail _ (.tail _ (.tail _ (.tail _ (.tail _ (.head _))))))) | exact hat _ (.tail _ (.tail _ (.tail _ (.tail _ (.tail _ (.tail _ (.tail _ (.head _)))))))) | exact hat _ (.tail _ (.tail _ (.tail _ (.tail _ (.tail _ (.tail _ (.tail _ (.tail _ (.head _))))))))) | exact hat _ (.tail _ (.tail _ (.tail _ (.tail _ (.tail _ (.tail _ (.tail _ (.tail _ (.tail _ (.head _)))))))))))) ?_) rfl
  rintro _ _ ⟨rfl, rfl⟩
  refine Ops.u (Dtu.not (lk rfl)) rfl ?_
  refine Ops.u (Dtu.asg (lk rfl)) rfl ?_
  refine Ops.nil ?_
  refine Then.next ?_
  refine Body.condT (lk rfl) ?_
  refine Body.seq ?_
  refine Body.region ?_
  refine Ops.u (Dtu.asg (lk rfl)) rfl ?_
  refine Ops.u (Dtu.asg (lk rfl)) rfl ?_
  refine Ops.u (Dtu.asg (lk rfl)) rfl ?_
  refine Ops.nil ?_
  refine Then.next ?_
  refine Body.ret ?_
  refine Blk.ret ?_
  refine Then.ret ?_
  exact ⟨.inr rfl, _, pk [] rfl, rfl, rfl⟩
theorem floor_nil (E : Env) : Does Try.prog 13 #[.pointer none] E ([]) fun r H' => r = .int .u64 0 ∧ H' = [] := by
  refine Does.go _ _ Try.func13 rfl Try.ntmps13 rfl rfl ?_
  skip
  refine Body.seq ?_
  refine Body.region ?_
  refine Ops.u (Dtu.asg (lk rfl)) rfl ?_
  refine Ops.nil ?_
  refine Then.next ?_
  refine Body.seq ?_
  refine Body.seq ?_
  refine Body.region ?_
  refine Ops.u (Dtu.mv (lk rfl)) rfl ?_
  refine Ops.u (Dtu.eqNil Try.underlying29 (lk rfl) (lk rfl)) rfl ?_
  refine Ops.nil ?_
  refine Then.next ?_
  refine Body.condT (lk rfl) ?_
  refine Body.seq ?_
  refine Body.region ?_
  refine Ops.u (Dtu.asg (lk rfl)) rfl ?_
  refine Ops.nil ?_
  refine Then.next ?_
  refine Body.ret ?_
  refine Then.ret ?_
  exact ⟨.inr rfl, _, pk [] rfl, rfl, rfl⟩
theorem missing_nil (E : Env) (id : Nat) : Does Try.prog 19 #[.pointer none, .int .u64 (id : Nat)] E ([]) fun r H' => r = .int .i64 0 ∧ H' = [] := by
  refine Does.go _ _ Try.func19 rfl Try.ntmps19 rfl rfl ?_
  skip
  refine Body.seq ?_
  refine Body.region ?_
  refine Ops.u (Dtu.asg (lk rfl)) rfl ?_
  refine Ops.nil ?_
  refine Then.next ?_
  refine Body.seq ?_
  refine Body.seq ?_
  refine Body.region ?_
  refine Ops.u (Dtu.mv (lk rfl)) rfl ?_
  refine Ops.s (Stp.call rfl Try.call39 (lks rfl) (fun E' le hat => made_nil E') ?_) rfl
  rintro _ _ ⟨rfl, rfl⟩
  refine Ops.u (Dtu.not (lk rfl)) rfl ?_
  refine Ops.u (Dtu.mv (lk rfl)) rfl ?_
  refine Ops.gn rfl rfl rfl rfl rfl ?_
  refine Ops.gn rfl rfl rfl rfl rfl ?_
  refine Ops.gn rfl rfl rfl rfl rfl ?_
  refine Ops.gn rfl rfl rfl rfl rfl ?_
  refine Ops.gn rfl rfl rfl rfl rfl ?_
  refine Ops.gn rfl rfl rfl rfl rfl ?_
  refine Ops.gn rfl rfl rfl rfl rfl ?_
  refine Ops.u (Dtu.pickT (lk rfl) (lk rfl)) rfl ?_
  refine Ops.nil ?_
  refine Then.next ?_
  refine Body.condT (lk rfl) ?_
  refine Body.seq ?_
  refine Body.region ?_
  refine Ops.u (Dtu.asg (lk rfl)) rfl ?_
  refine Ops.nil ?_
  refine Then.next ?_
  refine Body.ret ?_
  refine Then.ret ?_
  exact ⟨.inr rfl, _, pk [] rfl, rfl, rfl⟩
theorem waits_nil (E : Env) : Does Try.prog 14 #[.pointer none] E ([]) fun r H' => H' = [osl 22 1 r 0 []] := by
  refine Does.go _ _ Try.func14 rfl Try.ntmps14 rfl rfl ?_
  skip
  refine Body.addNil 22 1 none ?_
  refine Body.seq ?_
  refine Body.region ?_
  refine Ops.u (Dtu.asg (lk rfl)) rfl ?_
  refine Ops.nil ?_
  refine Then.next ?_
  refine Body.seq ?_
  refine Body.region ?_
  refine Ops.u (Dtu.asg (lk rfl)) rfl ?_
  refine Ops.nil ?_
  refine Then.next ?_
  refine Body.seq ?_
  refine Body.seq ?_
  refine Body.region ?_
  refine Ops.u (Dtu.mv (lk rfl)) rfl ?_
  refine Ops.s (Stp.call rfl Try.call39 (lks rfl) (fun E' le hat => made_nil E') ?_) rfl
  rintro _ _ ⟨rfl, rfl⟩
  refine Ops.nil ?_
  refine Then.next ?_
  refine Body.condF (lk rfl) ?_
  refine Body.skip ?_
  refine Then.next ?_
  refine Body.seq ?_
  refine Body.region ?_
  refine Ops.u (Dtu.mv (lk rfl)) rfl ?_
  refine Ops.s (Stp.callOwn [0] rfl rfl Try.call44 (lks rfl) (fun E' le hat => sort_ok E' (.slice none 0 0) [] (by simp)) ?_) rfl
  rintro _ _ ⟨ys21, rfl, rfl, p21, s21⟩
  refine Ops.nil ?_
  refine Then.next ?_
  refine Body.seq ?_
  refine Body.region ?_
  refine Ops.u (Dtu.mv (lk rfl)) rfl ?_
  refine Ops.u (Dtu.asg (lk rfl)) rfl ?_
  refine Ops.nil ?_
  refine Then.next ?_
  refine Body.ret ?_
  (obtain rfl := List.Perm.eq_nil p21; exact ⟨.inr rfl, _, pk [0] rfl, rfl⟩)
theorem waits_zero (E : Env) (b : Nat) (hA : At (own b [.int .u64 0, .map none] 52) E) : Does Try.prog 14 #[.pointer (some ⟨b, 0, none⟩)] E ([]) fun r H' => H' = [osl 22 1 r 0 []] := by
  refine Does.go _ _ Try.func14 rfl Try.ntmps14 rfl rfl ?_
  skip
  refine Body.addNil 22 1 none ?_
  refine Body.seq ?_
  refine Body.region ?_
  refine Ops.u (Dtu.asg (lk rfl)) rfl ?_
  refine Ops.nil ?_
  refine Then.next ?_
  refine Body.seq ?_
  refine Body.region ?_
  refine Ops.u (Dtu.asg (lk rfl)) rfl ?_
  refine Ops.nil ?_
  refine Then.next ?_
  refine Body.seq ?_
  refine Body.seq ?_
  refine Body.region ?_
  refine Ops.u (Dtu.mv (lk rfl)) rfl ?_
  refine Ops.s (Stp.call rfl Try.call39 (lks rfl) (fun E' le hat => made_zero E' _ (by first | exact At.mono (by assumption) le | exact hat _ (.head _) | exact hat _ (.tail _ (.head _)) | exact hat _ (.tail _ (.tail _ (.head _))) | exact hat _ (.tail _ (.tail _ (.tail _ (.head _)))) | exact hat _ (.tail _ (.tail _ (.tail _ (.tail _ (.head _))))) | exact hat _ (.tail _ (.tail _ (.tail _ (.tail _ (.tail _ (.head _)))))) | exact hat _ (.tail _ (.tail _ (.tail _ (.tail _ (.tail _ (.tail _ (.head _))))))) | exact hat _ (.tail _ (.tail _ (.tail _ (.tail _ (.tail _ (.tail _ (.tail _ (.head _)))))))) | exact hat _ (.tail _ (.tail _ (.tail _ (.tail _ (.tail _ (.tail _ (.tail _ (.tail _ (.head _))))))))) | exact hat _ (.tail _ (.tail _ (.tail _ (.tail _ (.tail _ (.tail _ (.tail _ (.tail _ (.tail _ (.head _)))))))))))) ?_) rfl
  rintro _ _ ⟨rfl, rfl⟩
  refine Ops.nil ?_
  refine Then.next ?_
  refine Body.condF (lk rfl) ?_
  refine Body.skip ?_
  refine Then.next ?_
  refine Body.seq ?_
  refine Body.region ?_
  refine Ops.u (Dtu.mv (lk rfl)) rfl ?_
  refine Ops.s (Stp.callOwn [0] rfl rfl Try.call44 (lks rfl) (fun E' le hat => sort_ok E' (.slice none 0 0) [] (by simp)) ?_) rfl
  rintro _ _ ⟨ys21, rfl, rfl, p21, s21⟩
  refine Ops.nil ?_
  refine Then.next ?_
  refine Body.seq ?_
  refine Body.region ?_
  refine Ops.u (Dtu.mv (lk rfl)) rfl ?_
  refine Ops.u (Dtu.asg (lk rfl)) rfl ?_
  refine Ops.nil ?_
  refine Then.next ?_
  refine Body.ret ?_
  (obtain rfl := List.Perm.eq_nil p21; exact ⟨.inr rfl, _, pk [0] rfl, rfl⟩)
theorem Body.rtab {P : Program} {nn : Nat} {f : Fr} {E : Env} {b n : Nat} {T : Tb} {H : List HProp} {K : Kont} {c : Code}
    (h : ∀ a m c1 L M, RtR T n L M → Body P nn c f E (own b [.int .u64 (T.floor : Nat), .slice a m c1] 48 :: osl 44 4 (.slice a m c1) L.length (L.flatMap Prt.enc) :: many M :: H) K) : Body P nn c f E (rtabP b n T :: H) K :=
  fun w x r d s => let ⟨a, m, c, L, M, hi, s2⟩ := rtabP_out s; h a m c L M hi w x r d s2
theorem rput_q (E : Env) (b n : Nat) (T T' : Tb) (out : List Int) (is : Bool) (e : Int) (p : Prt) (hd : p.At E) (hn : n ≤ 900) (hq : T.put p = (⟨out, is, e⟩, T')) : Does Try.prog 16 #[.pointer (some ⟨b, 0, none⟩), .agg p.enc.toArray] E ([rtabP b n T]) fun r H' => ∃ v, r = .tuple #[v, .bool is, .int .i64 e] ∧ H' = [osl 5 1 v out.length (u8s out), rtabP b (n + 1) T'] := by
  have := rput_t E b n T p hd hn
  rw [hq] at this
  exact this
theorem lives10_ok (E : Env) (v : Value) (l : List Prt) (hv : Sl E [] 4 v l.length (l.flatMap Prt.enc)) (hp : ∀ p ∈ l, p.At E) : Does Try.prog 5 #[v] E ([]) fun r H' => r = .bool true ∧ H' = [] := by
  refine Does.pure hv.len fun hlen => ?_
  refine Does.go _ _ Try.func5 rfl Try.ntmps5 rfl rfl ?_
  skip
  refine Body.seq ?_
  refine Body.region ?_
  refine Ops.u (Dtu.asg (lk rfl)) rfl ?_
  refine Ops.nil ?_
  refine Then.next ?_
  refine Body.seq ?_
  refine Body.region ?_
  refine Ops.s (Stp.call rfl Try.call11 (lks rfl) (fun E' le hat => jnew_ok E') ?_) rfl
  rintro _ _ ⟨t23, rfl, rfl⟩
  refine Ops.s (Stp.call rfl Try.call15 (lks rfl) (fun E' le hat => rnew_ok E') ?_) rfl
  rintro _ _ ⟨t24, rfl, rfl⟩
  refine Ops.u (Dtu.asg (lk rfl)) rfl ?_
  refine Ops.u (Dtu.asg (lk rfl)) rfl ?_
  refine Ops.nil ?_
  refine Then.next ?_
  refine Body.seq ?_
  refine Body.seq ?_
  refine Body.region ?_
  refine Ops.u (Dtu.asg (lk rfl)) rfl ?_
  refine Ops.nil ?_
  refine Then.next ?_
  refine Body.block ?_
  refine Body.loopL (γ := Nat × Tb) [0, 2, 3, 4] rfl (fun g => [(5, .int .i64 (g.1 : Nat))]) (fun g => [(0, rtabP t24 g.1 g.2), (1, tabP t23 g.2)]) (fun _ => rfl) (fun _ _ => rfl) (fun g => g.1 ≤ l.length ∧ g.1 ≤ 100 ∧ g.2.Ok) (fun g => l.length - g.1) ((0, ⟨1, []⟩)) (⟨Nat.zero_le _, Nat.zero_le _, tb0_ok⟩) ⟨rfl, trivial⟩ rfl ?_
  rintro ⟨k, T⟩ u ⟨hk1, hk2, hT⟩
  dsimp only at hk1 hk2 hT ⊢
  by_cases hlt : k < l.length ∧ k < 100
  · have hlt1 := hlt.1
    have hlt2 := hlt.2
    have hkn : k ≤ 900 := by omega
    have hpk : l[k]!.At E := hp _ (by rw [getElem!_pos l k hlt1]; exact List.getElem_mem _)
    have hsk : Sl E [] 1 l[k]!.s l[k]!.d.length (l[k]!.d.map (.int .u8)) := hpk
    obtain ⟨p1, p2, p3⟩ := Tb.put_ok hT l[k]!
    rcases hq : T.put l[k]! with ⟨⟨out, is, e⟩, T'⟩
    rw [hq] at p1 p2 p3
    dsimp only at p1 p2 p3
    have hwl := T'.waits_len
    have hfl := p1.len
    by_cases hbig : 600 < l[k]!.d.length
    · refine Body.seq ?_
      refine Body.seq ?_
      refine Body.region ?_
      refine Ops.u (Dtu.mv (lk rfl)) rfl ?_
      refine Ops.u (Dtu.mv (lk rfl)) rfl ?_
      refine Ops.u (Dtu.lenS Try.underlying25 (Sl.up hv) (lk rfl)) rfl ?_
      refine Ops.u (Dtu.lss (lk rfl) (lk rfl)) rfl ?_
      refine Ops.u (Dtu.mv (lk rfl)) rfl ?_
      refine Ops.decP 29 rfl (fun _ => ?_) (fun hn => absurd (by first | omega | assumption | decide) hn)
      refine Ops.gu rfl rfl rfl (Dtu.mv (lk rfl)) rfl ?_
      refine Ops.gu rfl rfl rfl (Dtu.lss (lk rfl) (lk rfl)) rfl ?_
      refine Ops.u (Dtu.pickT (lk rfl) (lk rfl)) rfl ?_
      refine Ops.nil ?_
      refine Then.next ?_
      refine Body.condP (lk rfl) (fun _ => ?_) (fun hn => absurd (by first | omega | assumption | decide) hn)
      refine Body.skip ?_
      refine Then.next ?_
      refine Body.seq ?_
      refine Body.block ?_
      refine Body.seq ?_
      refine Body.seq ?_
      refine Body.region ?_
      refine Ops.u (Dtu.mv (lk rfl)) rfl ?_
      refine Ops.u (Dtu.mv (lk rfl)) rfl ?_
      refine Ops.u (Dtu.ix (i := (k)) Try.underlying25 Try.sizeOf35 (Sl.up hv) (lk rfl) (lk rfl) (by omega) (by omega)) rfl ?_
      refine Ops.u (Dtu.fld fa35_3 (lk rfl)) rfl ?_
      refine Ops.d (Det.ld Try.isAgg23 (lk rfl) (Rd.sl2 (Sl.up hv) (gfe (sz := 4) (fun _ => rfl) (by omega) rfl))) rfl ?_
      refine Ops.u (Dtu.lenS Try.underlying23 (Sl.up hsk) (lk rfl)) rfl ?_
      refine Ops.u (Dtu.gtr (lk rfl) (lk rfl)) rfl ?_
      refine Ops.nil ?_
      refine Then.next ?_
      refine Body.condP (lk rfl) (fun _ => ?_) (fun hn => absurd (by first | omega | assumption | decide) hn)
      refine Body.seq ?_
      refine Body.region ?_
      refine Ops.s (Stp.call rfl Try.call9 (lks rfl) (fun E' le hat => alive10_ok E') ?_) rfl
      rintro _ _ ⟨rfl, rfl⟩
      refine Ops.u (Dtu.asg (lk rfl)) rfl ?_
      refine Ops.nil ?_
      refine Then.next ?_
      refine Body.ret ?_
      refine Then.ret ?_
      refine Blk.ret ?_
      refine Then.ret ?_
      refine Round.ret ?_
      refine Blk.ret ?_
      refine Then.ret ?_
      exact ⟨.inr rfl, _, pk [] rfl, rfl, rfl⟩
    · refine Body.seq ?_
      refine Body.seq ?_
      refine Body.region ?_
      refine Ops.u (Dtu.mv (lk rfl)) rfl ?_
      refine Ops.u (Dtu.mv (lk rfl)) rfl ?_
      refine Ops.u (Dtu.lenS Try.underlying25 (Sl.up hv) (lk rfl)) rfl ?_
      refine Ops.u (Dtu.lss (lk rfl) (lk rfl)) rfl ?_
      refine Ops.u (Dtu.mv (lk rfl)) rfl ?_
      refine Ops.decP 29 rfl (fun _ => ?_) (fun hn => absurd (by first | omega | assumption | decide) hn)
      refine Ops.gu rfl rfl rfl (Dtu.mv (lk rfl)) rfl ?_
      refine Ops.gu rfl rfl rfl (Dtu.lss (lk rfl) (lk rfl)) rfl ?_
      refine Ops.u (Dtu.pickT (lk rfl) (lk rfl)) rfl ?_
      refine Ops.nil ?_
      refine Then.next ?_
      refine Body.condP (lk rfl) (fun _ => ?_) (fun hn => absurd (by first | omega | assumption | decide) hn)
      refine Body.skip ?_
      refine Then.next ?_
      refine Body.seq ?_
      refine Body.block ?_
      refine Body.seq ?_
      refine Body.seq ?_
      refine Body.region ?_
      refine Ops.u (Dtu.mv (lk rfl)) rfl ?_
      refine Ops.u (Dtu.mv (lk rfl)) rfl ?_
      refine Ops.u (Dtu.ix (i := (k)) Try.underlying25 Try.sizeOf35 (Sl.up hv) (lk rfl) (lk rfl) (by omega) (by omega)) rfl ?_
      refine Ops.u (Dtu.fld fa35_3 (lk rfl)) rfl ?_
      refine Ops.d (Det.ld Try.isAgg23 (lk rfl) (Rd.sl2 (Sl.up hv) (gfe (sz := 4) (fun _ => rfl) (by omega) rfl))) rfl ?_
      refine Ops.u (Dtu.lenS Try.underlying23 (Sl.up hsk) (lk rfl)) rfl ?_
      refine Ops.u (Dtu.gtr (lk rfl) (lk rfl)) rfl ?_
      refine Ops.nil ?_
      refine Then.next ?_
      refine Body.condP (lk rfl) (fun hy => absurd hy (by first | omega | assumption | decide)) (fun _ => ?_)
      refine Body.skip ?_
      refine Then.next ?_
      refine Body.seq ?_
      refine Body.region ?_
      refine Ops.u (Dtu.mv (lk rfl)) rfl ?_
      refine Ops.u (Dtu.mv (lk rfl)) rfl ?_
      refine Ops.u (Dtu.mv (lk rfl)) rfl ?_
      refine Ops.u (Dtu.ix (i := (k)) Try.underlying25 Try.sizeOf35 (Sl.up hv) (lk rfl) (lk rfl) (by omega) (by omega)) rfl ?_
      refine Ops.d (Det.lda Try.isAgg35 Try.sizeOf35 (lk rfl) (Rds.sl (Sl.up hv) (gf (sz := 4) (fun _ => rfl) (by omega))) rfl) rfl ?_
      refine Ops.s (Stp.callOwn [1] rfl rfl Try.call12 (lks rfl) (fun E' le hat => tput_q E' _ _ _ _ _ _ l[k]! (hpk.mono le) hq) ?_) rfl
      rintro _ _ ⟨v49, rfl, rfl⟩
      refine Ops.u (Dtu.mv (lk rfl)) rfl ?_
      refine Ops.u (Dtu.ext (lk rfl) rfl) rfl ?_
      refine Ops.u (Dtu.ext (lk rfl) rfl) rfl ?_
      refine Ops.u (Dtu.ext (lk rfl) rfl) rfl ?_
      refine Ops.u (Dtu.asg (lk rfl)) rfl ?_
      refine Ops.u (Dtu.asg (lk rfl)) rfl ?_
      refine Ops.u (Dtu.asg (lk rfl)) rfl ?_
      refine Ops.nil ?_
      refine Then.next ?_
      refine Body.seq ?_
      refine Body.region ?_
      refine Ops.u (Dtu.mv (lk rfl)) rfl ?_
      refine Ops.u (Dtu.mv (lk rfl)) rfl ?_
      refine Ops.u (Dtu.mv (lk rfl)) rfl ?_
      refine Ops.u (Dtu.ix (i := (k)) Try.underlying25 Try.sizeOf35 (Sl.up hv) (lk rfl) (lk rfl) (by omega) (by omega)) rfl ?_
      refine Ops.d (Det.lda Try.isAgg35 Try.sizeOf35 (lk rfl) (Rds.sl (Sl.up hv) (gf (sz := 4) (fun _ => rfl) (by omega))) rfl) rfl ?_
      refine Ops.s (Stp.call rfl Try.call17 (lks rfl) (fun E' le hat => as_ok E' ⟨_, _, _, _, _⟩ (by first | assumption | exact Prt.At.mono (by assumption) le)) ?_) rfl
      rintro _ _ ⟨rfl, rfl⟩
      refine Ops.s (Stp.callOwn [2] rfl rfl Try.call16 (lks rfl) (fun E' le hat => rput_q E' _ _ _ _ _ _ _ l[k]! (hpk.mono le) hkn hq) ?_) rfl
      rintro _ _ ⟨v60, rfl, rfl⟩
      refine Ops.u (Dtu.mv (lk rfl)) rfl ?_
      refine Ops.u (Dtu.ext (lk rfl) rfl) rfl ?_
      refine Ops.u (Dtu.ext (lk rfl) rfl) rfl ?_
      refine Ops.u (Dtu.ext (lk rfl) rfl) rfl ?_
      refine Ops.u (Dtu.asg (lk rfl)) rfl ?_
      refine Ops.u (Dtu.asg (lk rfl)) rfl ?_
      refine Ops.u (Dtu.asg (lk rfl)) rfl ?_
      refine Ops.nil ?_
      refine Then.next ?_
      refine Body.cq [1] rfl (fun w s => s) (Body.rtab fun a m c1 L M hR => ?_)
      have z1 : ¬ ((strOfNums out).toList ≠ (strOfNums out).toList) := fun h => h rfl
      have z2 : ¬ (is ≠ is) := fun h => h rfl
      have z3 : ¬ (e ≠ e) := fun h => h rfl
      have z4 : ¬ ((T'.floor : Int) ≠ (T'.floor : Int)) := fun h => h rfl
      have z5 : ¬ ((T'.waits.length : Int) ≠ (T'.waits.length : Int)) := fun h => h rfl
      have z6 : ¬ ((T'.missing l[k]!.id : Int) ≠ (T'.missing l[k]!.id : Int)) := fun h => h rfl
      refine Body.seq ?_
      refine Body.region ?_
      refine Ops.u (Dtu.mv (lk rfl)) rfl ?_
      refine Ops.s (Stp.callOwn [5] rfl rfl Try.call14 (lks rfl) (fun E' le hat => waits_t E' _ _) ?_) rfl
      rintro v65 _ rfl
      refine Ops.u (Dtu.mv (lk rfl)) rfl ?_
      refine Ops.s (Stp.call rfl Try.call18 (lks rfl) (fun E' le hat => rwaits_u E' _ _ _ _ _ _ _ _ (by first | exact At.mono (by assumption) le | exact hat _ (.head _) | exact hat _ (.tail _ (.head _)) | exact hat _ (.tail _ (.tail _ (.head _))) | exact hat _ (.tail _ (.tail _ (.tail _ (.head _)))) | exact hat _ (.tail _ (.tail _ (.tail _ (.tail _ (.head _))))) | exact hat _ (.tail _ (.tail _ (.tail _ (.tail _ (.tail _ (.head _)))))) | exact hat _ (.tail _ (.tail _ (.tail _ (.tail _ (.tail _ (.tail _ (.head _))))))) | exact hat _ (.tail _ (.tail _ (.tail _ (.tail _ (.tail _ (.tail _ (.tail _ (.head _)))))))) | exact hat _ (.tail _ (.tail _ (.tail _ (.tail _ (.tail _ (.tail _ (.tail _ (.tail _ (.head _))))))))) | exact hat _ (.tail _ (.tail _ (.tail _ (.tail _ (.tail _ (.tail _ (.tail _ (.tail _ (.tail _ (.head _))))))))))) (by first | exact Sl.mono (by assumption) le | exact Sl.hatI hat 0 rfl | exact Sl.hatI hat 1 rfl | exact Sl.hatI hat 2 rfl | exact Sl.hatI hat 3 rfl | exact Sl.hatI hat 4 rfl | exact Sl.hatI hat 5 rfl | exact Sl.hatI hat 6 rfl | exact Sl.hatI hat 7 rfl | exact Sl.hatI hat 8 rfl | exact Sl.hatI hat 9 rfl | exact Sl.hatI hat 10 rfl | exact Sl.hatI hat 11 rfl | exact Sl.hatI hat 12 rfl | exact Sl.hatI hat 13 rfl | exact Sl.hatI hat 14 rfl | exact Sl.hatI hat 15 rfl | exact Sl.hatW hat 0 rfl | exact Sl.hatW hat 1 rfl | exact Sl.hatW hat 2 rfl | exact Sl.hatW hat 3 rfl | exact Sl.hatW hat 4 rfl | exact Sl.hatW hat 5 rfl | exact Sl.hatW hat 6 rfl | exact Sl.hatW hat 7 rfl | exact Sl.hatW hat 8 rfl | exact Sl.hatW hat 9 rfl) hR (by omega)) ?_) rfl
      rintro v67 _ rfl
      refine Ops.u (Dtu.asg (lk rfl)) rfl ?_
      refine Ops.u (Dtu.asg (lk rfl)) rfl ?_
      refine Ops.nil ?_
      refine Then.next ?_
      refine Body.seq ?_
      refine Body.seq ?_
      refine Body.draw mixed ?_
      refine AB.u 0 rfl (by decide +kernel) (Dtu.mv (lk rfl)) rfl ?_
      refine AB.d 1 rfl (by decide +kernel) rfl (Det.bstr Try.underlying23 Try.underlying5 Try.underlying9 (lk rfl) (Sl.osl 7 rfl)) rfl ?_
      refine AB.u 2 rfl (by decide +kernel) (Dtu.mv (lk rfl)) rfl ?_
      refine AB.d 3 rfl (by decide +kernel) rfl (Det.bstr Try.underlying23 Try.underlying5 Try.underlying9 (lk rfl) (Sl.osl 6 rfl)) rfl ?_
      refine AB.u 4 rfl (by decide +kernel) (Dtu.neStr (lk rfl) (lk rfl)) rfl ?_
      refine AB.u 5 rfl (by decide +kernel) (Dtu.mv (lk rfl)) rfl ?_
      refine AB.decP 73 rfl (fun hy => absurd hy (by first | omega | assumption | decide)) (fun _ => ?_)
      refine AB.gu 6 rfl (by decide +kernel) rfl rfl rfl (Dtu.mv (lk rfl)) rfl ?_
      refine AB.gu 7 rfl (by decide +kernel) rfl rfl rfl (Dtu.mv (lk rfl)) rfl ?_
      refine AB.gu 8 rfl (by decide +kernel) rfl rfl rfl (Dtu.neB Try.underlying4 (lk rfl) (lk rfl)) rfl ?_
      refine AB.u 9 rfl (by decide +kernel) (Dtu.pickF (lk rfl) (lk rfl)) rfl ?_
      refine AB.u 10 rfl (by decide +kernel) (Dtu.mv (lk rfl)) rfl ?_
      refine AB.decP 78 rfl (fun hy => absurd hy (by first | omega | assumption | decide)) (fun _ => ?_)
      refine AB.gu 11 rfl (by decide +kernel) rfl rfl rfl (Dtu.mv (lk rfl)) rfl ?_
      refine AB.gu 12 rfl (by decide +kernel) rfl rfl rfl (Dtu.mv (lk rfl)) rfl ?_
      refine AB.gu 13 rfl (by decide +kernel) rfl rfl rfl (Dtu.neq (lk rfl) (lk rfl)) rfl ?_
      refine AB.u 14 rfl (by decide +kernel) (Dtu.pickF (lk rfl) (lk rfl)) rfl ?_
      refine AB.u 15 rfl (by decide +kernel) (Dtu.mv (lk rfl)) rfl ?_
      refine AB.decP 83 rfl (fun hy => absurd hy (by first | omega | assumption | decide)) (fun _ => ?_)
      refine AB.gu 16 rfl (by decide +kernel) rfl rfl rfl (Dtu.mv (lk rfl)) rfl ?_
      refine AB.gu 18 rfl (by decide +kernel) rfl rfl rfl (Dtu.mv (lk rfl)) rfl ?_
      refine AB.gu 19 rfl (by decide +kernel) rfl rfl rfl (Dtu.nilck (lk rfl)) rfl ?_
      refine AB.gu 20 rfl (by decide +kernel) rfl rfl rfl (Dtu.fld fa48_0 (lk rfl)) rfl ?_
      refine AB.gd 21 rfl (by decide +kernel) rfl rfl rfl rfl (Det.ld Try.isAgg22 (lk rfl) (Rd.ow 3 rfl rfl)) rfl ?_
      refine AB.gs 17 rfl (by decide +kernel) (by decide +kernel) rfl rfl rfl (Stp.call rfl Try.call13 (lks rfl) (fun E' le hat => floor_r E' _ _ (by first | exact At.mono (by assumption) le | exact hat _ (.head _) | exact hat _ (.tail _ (.head _)) | exact hat _ (.tail _ (.tail _ (.head _))) | exact hat _ (.tail _ (.tail _ (.tail _ (.head _)))) | exact hat _ (.tail _ (.tail _ (.tail _ (.tail _ (.head _))))) | exact hat _ (.tail _ (.tail _ (.tail _ (.tail _ (.tail _ (.head _)))))) | exact hat _ (.tail _ (.tail _ (.tail _ (.tail _ (.tail _ (.tail _ (.head _))))))) | exact hat _ (.tail _ (.tail _ (.tail _ (.tail _ (.tail _ (.tail _ (.tail _ (.head _)))))))) | exact hat _ (.tail _ (.tail _ (.tail _ (.tail _ (.tail _ (.tail _ (.tail _ (.tail _ (.head _))))))))) | exact hat _ (.tail _ (.tail _ (.tail _ (.tail _ (.tail _ (.tail _ (.tail _ (.tail _ (.tail _ (.head _)))))))))))) ?_) rfl
      rintro _ _ ⟨rfl, rfl⟩
      refine AB.gu 22 rfl (by decide +kernel) rfl rfl rfl (Dtu.neq (lk rfl) (lk rfl)) rfl ?_
      refine AB.u 23 rfl (by decide +kernel) (Dtu.pickF (lk rfl) (lk rfl)) rfl ?_
      refine AB.u 24 rfl (by decide +kernel) (Dtu.mv (lk rfl)) rfl ?_
      refine AB.decP 92 rfl (fun hy => absurd hy (by first | omega | assumption | decide)) (fun _ => ?_)
      refine AB.gu 25 rfl (by decide +kernel) rfl rfl rfl (Dtu.mv (lk rfl)) rfl ?_
      refine AB.gu 26 rfl (by decide +kernel) rfl rfl rfl (Dtu.lenS Try.underlying38 (Sl.osl 1 rfl) (lk rfl)) rfl ?_
      refine AB.gu 27 rfl (by decide +kernel) rfl rfl rfl (Dtu.mv (lk rfl)) rfl ?_
      refine AB.gu 28 rfl (by decide +kernel) rfl rfl rfl (Dtu.lenS Try.underlying38 (Sl.osl 0 rfl) (lk rfl)) rfl ?_
      refine AB.gu 29 rfl (by decide +kernel) rfl rfl rfl (Dtu.neq (lk rfl) (lk rfl)) rfl ?_
      refine AB.u 30 rfl (by decide +kernel) (Dtu.pickF (lk rfl) (lk rfl)) rfl ?_
      refine AB.u 31 rfl (by decide +kernel) (Dtu.mv (lk rfl)) rfl ?_
      refine AB.decP 99 rfl (fun hy => absurd hy (by first | omega | assumption | decide)) (fun _ => ?_)
      refine AB.gu 32 rfl (by decide +kernel) rfl rfl rfl (Dtu.mv (lk rfl)) rfl ?_
      refine AB.gu 33 rfl (by decide +kernel) rfl rfl rfl (Dtu.mv (lk rfl)) rfl ?_
      refine AB.gu 34 rfl (by decide +kernel) rfl rfl rfl (Dtu.mv (lk rfl)) rfl ?_
      refine AB.gu 35 rfl (by decide +kernel) rfl rfl rfl (Dtu.ix (i := (k)) Try.underlying25 Try.sizeOf35 (Sl.up hv) (lk rfl) (lk rfl) (by omega) (by omega)) rfl ?_
      refine AB.gu 36 rfl (by decide +kernel) rfl rfl rfl (Dtu.fld fa35_0 (lk rfl)) rfl ?_
      refine AB.gd 37 rfl (by decide +kernel) rfl rfl rfl rfl (Det.ld Try.isAgg22 (lk rfl) (Rd.sl2 (Sl.up hv) (gfe (sz := 4) (fun _ => rfl) (by omega) rfl))) rfl ?_
      refine AB.gu 39 rfl (by decide +kernel) rfl rfl rfl (Dtu.mv (lk rfl)) rfl ?_
      refine AB.gu 40 rfl (by decide +kernel) rfl rfl rfl (Dtu.mv (lk rfl)) rfl ?_
      refine AB.gu 41 rfl (by decide +kernel) rfl rfl rfl (Dtu.mv (lk rfl)) rfl ?_
      refine AB.gu 42 rfl (by decide +kernel) rfl rfl rfl (Dtu.ix (i := (k)) Try.underlying25 Try.sizeOf35 (Sl.up hv) (lk rfl) (lk rfl) (by omega) (by omega)) rfl ?_
      refine AB.gu 43 rfl (by decide +kernel) rfl rfl rfl (Dtu.fld fa35_0 (lk rfl)) rfl ?_
      refine AB.gd 44 rfl (by decide +kernel) rfl rfl rfl rfl (Det.ld Try.isAgg22 (lk rfl) (Rd.sl2 (Sl.up hv) (gfe (sz := 4) (fun _ => rfl) (by omega) rfl))) rfl ?_
      refine AB.gs 38 rfl (by decide +kernel) (by decide +kernel) rfl rfl rfl (Stp.call rfl Try.call19 (lks rfl) (fun E' le hat => missing_r E' _ _ _ (by first | exact At.mono (by assumption) le | exact hat _ (.head _) | exact hat _ (.tail _ (.head _)) | exact hat _ (.tail _ (.tail _ (.head _))) | exact hat _ (.tail _ (.tail _ (.tail _ (.head _)))) | exact hat _ (.tail _ (.tail _ (.tail _ (.tail _ (.head _))))) | exact hat _ (.tail _ (.tail _ (.tail _ (.tail _ (.tail _ (.head _)))))) | exact hat _ (.tail _ (.tail _ (.tail _ (.tail _ (.tail _ (.tail _ (.head _))))))) | exact hat _ (.tail _ (.tail _ (.tail _ (.tail _ (.tail _ (.tail _ (.tail _ (.head _)))))))) | exact hat _ (.tail _ (.tail _ (.tail _ (.tail _ (.tail _ (.tail _ (.tail _ (.tail _ (.head _))))))))) | exact hat _ (.tail _ (.tail _ (.tail _ (.tail _ (.tail _ (.tail _ (.tail _ (.tail _ (.tail _ (.head _)))))))))))) ?_) rfl
      rintro _ _ ⟨rfl, rfl⟩
      refine AB.gs 45 rfl (by decide +kernel) (by decide +kernel) rfl rfl rfl (Stp.call rfl Try.call20 (lks rfl) (fun E' le hat => rmissing_u E' _ _ _ _ _ _ _ _ _ (by first | exact At.mono (by assumption) le | exact hat _ (.head _) | exact hat _ (.tail _ (.head _)) | exact hat _ (.tail _ (.tail _ (.head _))) | exact hat _ (.tail _ (.tail _ (.tail _ (.head _)))) | exact hat _ (.tail _ (.tail _ (.tail _ (.tail _ (.head _))))) | exact hat _ (.tail _ (.tail _ (.tail _ (.tail _ (.tail _ (.head _)))))) | exact hat _ (.tail _ (.tail _ (.tail _ (.tail _ (.tail _ (.tail _ (.head _))))))) | exact hat _ (.tail _ (.tail _ (.tail _ (.tail _ (.tail _ (.tail _ (.tail _ (.head _)))))))) | exact hat _ (.tail _ (.tail _ (.tail _ (.tail _ (.tail _ (.tail _ (.tail _ (.tail _ (.head _))))))))) | exact hat _ (.tail _ (.tail _ (.tail _ (.tail _ (.tail _ (.tail _ (.tail _ (.tail _ (.tail _ (.head _))))))))))) (by first | exact Sl.mono (by assumption) le | exact Sl.hatI hat 0 rfl | exact Sl.hatI hat 1 rfl | exact Sl.hatI hat 2 rfl | exact Sl.hatI hat 3 rfl | exact Sl.hatI hat 4 rfl | exact Sl.hatI hat 5 rfl | exact Sl.hatI hat 6 rfl | exact Sl.hatI hat 7 rfl | exact Sl.hatI hat 8 rfl | exact Sl.hatI hat 9 rfl | exact Sl.hatI hat 10 rfl | exact Sl.hatI hat 11 rfl | exact Sl.hatI hat 12 rfl | exact Sl.hatI hat 13 rfl | exact Sl.hatI hat 14 rfl | exact Sl.hatI hat 15 rfl | exact Sl.hatW hat 0 rfl | exact Sl.hatW hat 1 rfl | exact Sl.hatW hat 2 rfl | exact Sl.hatW hat 3 rfl | exact Sl.hatW hat 4 rfl | exact Sl.hatW hat 5 rfl | exact Sl.hatW hat 6 rfl | exact Sl.hatW hat 7 rfl | exact Sl.hatW hat 8 rfl | exact Sl.hatW hat 9 rfl) hR (by omega)) ?_) rfl
      rintro _ _ ⟨rfl, rfl⟩
      refine AB.gu 46 rfl (by decide +kernel) rfl rfl rfl (Dtu.neq (lk rfl) (lk rfl)) rfl ?_
      refine AB.u 47 rfl (by decide +kernel) (Dtu.pickF (lk rfl) (lk rfl)) rfl ?_
      refine AB.done (by decide +kernel) ?_
      refine Then.next ?_
      refine Body.condP (lk rfl) (fun hy => absurd hy (by first | omega | assumption | decide)) (fun _ => ?_)
      refine Body.skip ?_
      refine Then.next ?_
      refine Body.seq ?_
      refine Body.region ?_
      refine Ops.u (Dtu.asg (lk rfl)) rfl ?_
      refine Ops.nil ?_
      refine Then.next ?_
      refine Body.block ?_
      refine Body.conseq (fun w s => rtabP_in hR (pk [3, 3, 3, 0, 0, 0] rfl w s)) ?_
      refine Body.loopL (γ := Nat) [0, 2, 3, 4, 5, 6, 7, 8, 9, 10, 11, 12, 13] rfl (fun q => [(14, .int .i64 (q : Nat))]) (fun q => []) (fun _ => rfl) (fun _ _ => rfl) (fun q => q ≤ T'.waits.length) (fun q => T'.waits.length - q) (0) (Nat.zero_le _) ⟨rfl, trivial⟩ rfl ?_
      rintro q u2 hq1
      by_cases hql : q < T'.waits.length
      · have z7 : ¬ ((T'.waits[q]! : Int) ≠ (T'.waits[q]! : Int)) := fun h => h rfl
        refine Body.seq ?_
        refine Body.seq ?_
        refine Body.region ?_
        refine Ops.u (Dtu.mv (lk rfl)) rfl ?_
        refine Ops.u (Dtu.mv (lk rfl)) rfl ?_
        refine Ops.u (Dtu.lenS Try.underlying38 (Sl.osl 2 rfl) (lk rfl)) rfl ?_
        refine Ops.u (Dtu.lss (lk rfl) (lk rfl)) rfl ?_
        refine Ops.nil ?_
        refine Then.next ?_
        refine Body.condP (lk rfl) (fun _ => ?_) (fun hn => absurd (by first | omega | assumption | decide) hn)
        refine Body.skip ?_
        refine Then.next ?_
        refine Body.seq ?_
        refine Body.block ?_
        refine Body.seq ?_
        refine Body.draw mixed ?_
        refine AB.u 0 rfl (by decide +kernel) (Dtu.mv (lk rfl)) rfl ?_
        refine AB.u 1 rfl (by decide +kernel) (Dtu.mv (lk rfl)) rfl ?_
        refine AB.u 2 rfl (by decide +kernel) (Dtu.ix (i := (q)) Try.underlying38 Try.sizeOf22 (Sl.osl 2 rfl) (lk rfl) (lk rfl) (by omega) (by omega)) rfl ?_
        refine AB.d 3 rfl (by decide +kernel) rfl (Det.ld Try.isAgg22 (lk rfl) (Rd.sl (Sl.osl 2 rfl) (gm (by omega)))) rfl ?_
        refine AB.u 4 rfl (by decide +kernel) (Dtu.mv (lk rfl)) rfl ?_
        refine AB.u 5 rfl (by decide +kernel) (Dtu.mv (lk rfl)) rfl ?_
        refine AB.u 6 rfl (by decide +kernel) (Dtu.ix (i := (q)) Try.underlying38 Try.sizeOf22 (Sl.osl 1 rfl) (lk rfl) (lk rfl) (by omega) (by omega)) rfl ?_
        refine AB.d 7 rfl (by decide +kernel) rfl (Det.ld Try.isAgg22 (lk rfl) (Rd.sl (Sl.osl 1 rfl) (gm (by omega)))) rfl ?_
        refine AB.u 8 rfl (by decide +kernel) (Dtu.neq (lk rfl) (lk rfl)) rfl ?_
        refine AB.done (by decide +kernel) ?_
        refine Then.next ?_
        refine Body.condP (lk rfl) (fun hy => absurd hy (by first | omega | assumption | decide)) (fun _ => ?_)
        refine Body.skip ?_
        refine Blk.norm ?_
        refine Then.next ?_
        refine Body.region ?_
        refine Ops.u (Dtu.mv (lk rfl)) rfl ?_
        refine Ops.u (Dtu.add (lk rfl) (lk rfl) (w64 (by omega) (by omega))) rfl ?_
        refine Ops.u (Dtu.asg (lk rfl)) rfl ?_
        refine Ops.nil ?_
        refine Round.goL [0, 0, 0, 0] (q + 1) rfl ⟨rfl, trivial⟩ rfl rfl hql (by omega)
      · refine Body.seq ?_
        refine Body.seq ?_
        refine Body.region ?_
        refine Ops.u (Dtu.mv (lk rfl)) rfl ?_
        refine Ops.u (Dtu.mv (lk rfl)) rfl ?_
        refine Ops.u (Dtu.lenS Try.underlying38 (Sl.osl 2 rfl) (lk rfl)) rfl ?_
        refine Ops.u (Dtu.lss (lk rfl) (lk rfl)) rfl ?_
        refine Ops.nil ?_
        refine Then.next ?_
        refine Body.condP (lk rfl) (fun hy => absurd hy (by first | omega | assumption | decide)) (fun _ => ?_)
        refine Body.exit ?_
        refine Then.exit ?_
        refine Round.exit ?_
        refine Blk.here ?_
        refine Blk.norm ?_
        refine Then.next ?_
        refine Body.region ?_
        refine Ops.u (Dtu.mv (lk rfl)) rfl ?_
        refine Ops.u (Dtu.add (lk rfl) (lk rfl) (w64 (by omega) (by omega))) rfl ?_
        refine Ops.u (Dtu.asg (lk rfl)) rfl ?_
        refine Ops.nil ?_
        refine Round.goL [0, 2] (k + 1, T') rfl ⟨rfl, trivial⟩ rfl rfl ⟨hlt1, hlt2, p1⟩ (by dsimp only; omega)
  · refine Body.seq ?_
    refine Body.seq ?_
    refine Body.region ?_
    refine Ops.u (Dtu.mv (lk rfl)) rfl ?_
    refine Ops.u (Dtu.mv (lk rfl)) rfl ?_
    refine Ops.u (Dtu.lenS Try.underlying25 (Sl.up hv) (lk rfl)) rfl ?_
    refine Ops.u (Dtu.lss (lk rfl) (lk rfl)) rfl ?_
    refine Ops.u (Dtu.mv (lk rfl)) rfl ?_
    refine Ops.decP 29 rfl (fun c29 => ?_) (fun c29 => ?_)
    · refine Ops.gu rfl rfl rfl (Dtu.mv (lk rfl)) rfl ?_
      refine Ops.gu rfl rfl rfl (Dtu.lss (lk rfl) (lk rfl)) rfl ?_
      refine Ops.u (Dtu.pickT (lk rfl) (lk rfl)) rfl ?_
      refine Ops.nil ?_
      refine Then.next ?_
      refine Body.condP (lk rfl) (fun hy => absurd hy (by first | omega | assumption | decide)) (fun _ => ?_)
      refine Body.exit ?_
      refine Then.exit ?_
      refine Round.exit ?_
      refine Blk.here ?_
      refine Then.next ?_
      refine Body.seq ?_
      refine Body.region ?_
      refine Ops.u (Dtu.asg (lk rfl)) rfl ?_
      refine Ops.nil ?_
      refine Then.next ?_
      refine Body.seq ?_
      refine Body.region ?_
      refine Ops.s (Stp.alloc ty52 (fun b16 => ?_)) rfl
      refine Ops.nil ?_
      refine Then.next ?_
      refine Body.seq ?_
      refine Body.region ?_
      refine Ops.u (Dtu.mv (lk rfl)) rfl ?_
      refine Ops.u (Dtu.build ty35 pl35 (lkp rfl) rfl rfl) rfl ?_
      refine Ops.s (Stp.call rfl Try.call12 (lks rfl) (fun E' le hat => put_nil E' _) ?_) rfl
      rintro _ _ ⟨rfl, rfl⟩
      refine Ops.u (Dtu.mv (lk rfl)) rfl ?_
      refine Ops.u (Dtu.ext (lk rfl) rfl) rfl ?_
      refine Ops.u (Dtu.ext (lk rfl) rfl) rfl ?_
      refine Ops.u (Dtu.ext (lk rfl) rfl) rfl ?_
      refine Ops.u (Dtu.asg (lk rfl)) rfl ?_
      refine Ops.u (Dtu.asg (lk rfl)) rfl ?_
      refine Ops.u (Dtu.asg (lk rfl)) rfl ?_
      refine Ops.nil ?_
      refine Then.next ?_
      refine Body.seq ?_
      refine Body.region ?_
      refine Ops.u (Dtu.build ty35 pl35 (lkp rfl) rfl rfl) rfl ?_
      refine Ops.s (Stp.call rfl Try.call12 (lks rfl) (fun E' le hat => put_zero E' _ _ (by first | exact At.mono (by assumption) le | exact hat _ (.head _) | exact hat _ (.tail _ (.head _)) | exact hat _ (.tail _ (.tail _ (.head _))) | exact hat _ (.tail _ (.tail _ (.tail _ (.head _)))) | exact hat _ (.tail _ (.tail _ (.tail _ (.tail _ (.head _))))) | exact hat _ (.tail _ (.tail _ (.tail _ (.tail _ (.tail _ (.head _)))))) | exact hat _ (.tail _ (.tail _ (.tail _ (.tail _ (.tail _ (.tail _ (.head _))))))) | exact hat _ (.tail _ (.tail _ (.tail _ (.tail _ (.tail _ (.tail _ (.tail _ (.head _)))))))) | exact hat _ (.tail _ (.tail _ (.tail _ (.tail _ (.tail _ (.tail _ (.tail _ (.tail _ (.head _))))))))) | exact hat _ (.tail _ (.tail _ (.tail _ (.tail _ (.tail _ (.tail _ (.tail _ (.tail _ (.tail _ (.head _)))))))))))) ?_) rfl
      rintro _ _ ⟨rfl, rfl⟩
      refine Ops.u (Dtu.mv (lk rfl)) rfl ?_
      refine Ops.u (Dtu.ext (lk rfl) rfl) rfl ?_
      refine Ops.u (Dtu.ext (lk rfl) rfl) rfl ?_
      refine Ops.u (Dtu.ext (lk rfl) rfl) rfl ?_
      refine Ops.u (Dtu.asg (lk rfl)) rfl ?_
      refine Ops.u (Dtu.asg (lk rfl)) rfl ?_
      refine Ops.u (Dtu.asg (lk rfl)) rfl ?_
      refine Ops.nil ?_
      refine Then.next ?_
      refine Body.seq ?_
      refine Body.region ?_
      refine Ops.s (Stp.call rfl Try.call9 (lks rfl) (fun E' le hat => alive10_ok E') ?_) rfl
      rintro _ _ ⟨rfl, rfl⟩
      refine Ops.u (Dtu.mv (lk rfl)) rfl ?_
      refine Ops.gu rfl rfl rfl (Dtu.mv (lk rfl)) rfl ?_
      refine Ops.gu rfl rfl rfl (Dtu.eql (lk rfl) (lk rfl)) rfl ?_
      refine Ops.u (Dtu.pickT (lk rfl) (lk rfl)) rfl ?_
      refine Ops.u (Dtu.mv (lk rfl)) rfl ?_
      refine Ops.decP 149 rfl (fun _ => ?_) (fun hn => absurd (by first | omega | assumption | decide) hn)
      refine Ops.gu rfl rfl rfl (Dtu.mv (lk rfl)) rfl ?_
      refine Ops.gu rfl rfl rfl (Dtu.eql (lk rfl) (lk rfl)) rfl ?_
      refine Ops.u (Dtu.pickT (lk rfl) (lk rfl)) rfl ?_
      refine Ops.u (Dtu.mv (lk rfl)) rfl ?_
      refine Ops.decP 153 rfl (fun _ => ?_) (fun hn => absurd (by first | omega | assumption | decide) hn)
      refine Ops.gu rfl rfl rfl (Dtu.mv (lk rfl)) rfl ?_
      refine Ops.gs rfl rfl rfl (Stp.call rfl Try.call13 (lks rfl) (fun E' le hat => floor_nil E') ?_) rfl
      rintro _ _ ⟨rfl, rfl⟩
      refine Ops.gu rfl rfl rfl (Dtu.eql (lk rfl) (lk rfl)) rfl ?_
      refine Ops.u (Dtu.pickT (lk rfl) (lk rfl)) rfl ?_
      refine Ops.u (Dtu.mv (lk rfl)) rfl ?_
      refine Ops.decP 158 rfl (fun _ => ?_) (fun hn => absurd (by first | omega | assumption | decide) hn)
      refine Ops.gu rfl rfl rfl (Dtu.mv (lk rfl)) rfl ?_
      refine Ops.gs rfl rfl rfl (Stp.call rfl Try.call14 (lks rfl) (fun E' le hat => waits_nil E') ?_) rfl
      rintro _ _ rfl
      refine Ops.gu rfl rfl rfl (Dtu.lenS Try.underlying38 (Sl.osl 0 rfl) (lk rfl)) rfl ?_
      refine Ops.gs rfl rfl rfl (Stp.call rfl Try.call14 (lks rfl) (fun E' le hat => waits_zero E' _ (by first | exact At.mono (by assumption) le | exact hat _ (.head _) | exact hat _ (.tail _ (.head _)) | exact hat _ (.tail _ (.tail _ (.head _))) | exact hat _ (.tail _ (.tail _ (.tail _ (.head _)))) | exact hat _ (.tail _ (.tail _ (.tail _ (.tail _ (.head _))))) | exact hat _ (.tail _ (.tail _ (.tail _ (.tail _ (.tail _ (.head _)))))) | exact hat _ (.tail _ (.tail _ (.tail _ (.tail _ (.tail _ (.tail _ (.head _))))))) | exact hat _ (.tail _ (.tail _ (.tail _ (.tail _ (.tail _ (.tail _ (.tail _ (.head _)))))))) | exact hat _ (.tail _ (.tail _ (.tail _ (.tail _ (.tail _ (.tail _ (.tail _ (.tail _ (.head _))))))))) | exact hat _ (.tail _ (.tail _ (.tail _ (.tail _ (.tail _ (.tail _ (.tail _ (.tail _ (.tail _ (.head _)))))))))))) ?_) rfl
      rintro _ _ rfl
      refine Ops.gu rfl rfl rfl (Dtu.lenS Try.underlying38 (Sl.osl 0 rfl) (lk rfl)) rfl ?_
      refine Ops.gu rfl rfl rfl (Dtu.add (lk rfl) (lk rfl) (w64 (by omega) (by omega))) rfl ?_
      refine Ops.gu rfl rfl rfl (Dtu.mv (lk rfl)) rfl ?_
      refine Ops.gs rfl rfl rfl (Stp.call rfl Try.call19 (lks rfl) (fun E' le hat => missing_nil E' _) ?_) rfl
      rintro _ _ ⟨rfl, rfl⟩
      refine Ops.gu rfl rfl rfl (Dtu.add (lk rfl) (lk rfl) (w64 (by omega) (by omega))) rfl ?_
      refine Ops.gu rfl rfl rfl (Dtu.eql (lk rfl) (lk rfl)) rfl ?_
      refine Ops.u (Dtu.pickT (lk rfl) (lk rfl)) rfl ?_
      refine Ops.u (Dtu.asg (lk rfl)) rfl ?_
      refine Ops.nil ?_
      refine Then.next ?_
      refine Body.ret ?_
      exact ⟨.inr rfl, _, pk [] rfl, rfl, rfl⟩
    · refine Ops.gn rfl rfl rfl rfl rfl ?_
      refine Ops.gn rfl rfl rfl rfl rfl ?_
      refine Ops.u (Dtu.pickF (lk rfl) (lk rfl)) rfl ?_
      refine Ops.nil ?_
      refine Then.next ?_
      refine Body.condF (lk rfl) ?_
      refine Body.exit ?_
      refine Then.exit ?_
      refine Round.exit ?_
      refine Blk.here ?_
      refine Then.next ?_
      refine Body.seq ?_
      refine Body.region ?_
      refine Ops.u (Dtu.asg (lk rfl)) rfl ?_
      refine Ops.nil ?_
      refine Then.next ?_
      refine Body.seq ?_
      refine Body.region ?_
      refine Ops.s (Stp.alloc ty52 (fun b16 => ?_)) rfl
      refine Ops.nil ?_
      refine Then.next ?_
      refine Body.seq ?_
      refine Body.region ?_
      refine Ops.u (Dtu.mv (lk rfl)) rfl ?_
      refine Ops.u (Dtu.build ty35 pl35 (lkp rfl) rfl rfl) rfl ?_
      refine Ops.s (Stp.call rfl Try.call12 (lks rfl) (fun E' le hat => put_nil E' _) ?_) rfl
      rintro _ _ ⟨rfl, rfl⟩
      refine Ops.u (Dtu.mv (lk rfl)) rfl ?_
      refine Ops.u (Dtu.ext (lk rfl) rfl) rfl ?_
      refine Ops.u (Dtu.ext (lk rfl) rfl) rfl ?_
      refine Ops.u (Dtu.ext (lk rfl) rfl) rfl ?_
      refine Ops.u (Dtu.asg (lk rfl)) rfl ?_
      refine Ops.u (Dtu.asg (lk rfl)) rfl ?_
      refine Ops.u (Dtu.asg (lk rfl)) rfl ?_
      refine Ops.nil ?_
      refine Then.next ?_
      refine Body.seq ?_
      refine Body.region ?_
      refine Ops.u (Dtu.build ty35 pl35 (lkp rfl) rfl rfl) rfl ?_
      refine Ops.s (Stp.call rfl Try.call12 (lks rfl) (fun E' le hat => put_zero E' _ _ (by first | exact At.mono (by assumption) le | exact hat _ (.head _) | exact hat _ (.tail _ (.head _)) | exact hat _ (.tail _ (.tail _ (.head _))) | exact hat _ (.tail _ (.tail _ (.tail _ (.head _)))) | exact hat _ (.tail _ (.tail _ (.tail _ (.tail _ (.head _))))) | exact hat _ (.tail _ (.tail _ (.tail _ (.tail _ (.tail _ (.head _)))))) | exact hat _ (.tail _ (.tail _ (.tail _ (.tail _ (.tail _ (.tail _ (.head _))))))) | exact hat _ (.tail _ (.tail _ (.tail _ (.tail _ (.tail _ (.tail _ (.tail _ (.head _)))))))) | exact hat _ (.tail _ (.tail _ (.tail _ (.tail _ (.tail _ (.tail _ (.tail _ (.tail _ (.head _))))))))) | exact hat _ (.tail _ (.tail _ (.tail _ (.tail _ (.tail _ (.tail _ (.tail _ (.tail _ (.tail _ (.head _)))))))))))) ?_) rfl
      rintro _ _ ⟨rfl, rfl⟩
      refine Ops.u (Dtu.mv (lk rfl)) rfl ?_
      refine Ops.u (Dtu.ext (lk rfl) rfl) rfl ?_
      refine Ops.u (Dtu.ext (lk rfl) rfl) rfl ?_
      refine Ops.u (Dtu.ext (lk rfl) rfl) rfl ?_
      refine Ops.u (Dtu.asg (lk rfl)) rfl ?_
      refine Ops.u (Dtu.asg (lk rfl)) rfl ?_
      refine Ops.u (Dtu.asg (lk rfl)) rfl ?_
      refine Ops.nil ?_
      refine Then.next ?_
      refine Body.seq ?_
      refine Body.region ?_
      refine Ops.s (Stp.call rfl Try.call9 (lks rfl) (fun E' le hat => alive10_ok E') ?_) rfl
      rintro _ _ ⟨rfl, rfl⟩
      refine Ops.u (Dtu.mv (lk rfl)) rfl ?_
      refine Ops.gu rfl rfl rfl (Dtu.mv (lk rfl)) rfl ?_
      refine Ops.gu rfl rfl rfl (Dtu.eql (lk rfl) (lk rfl)) rfl ?_
      refine Ops.u (Dtu.pickT (lk rfl) (lk rfl)) rfl ?_
      refine Ops.u (Dtu.mv (lk rfl)) rfl ?_
      refine Ops.decP 149 rfl (fun _ => ?_) (fun hn => absurd (by first | omega | assumption | decide) hn)
      refine Ops.gu rfl rfl rfl (Dtu.mv (lk rfl)) rfl ?_
      refine Ops.gu rfl rfl rfl (Dtu.eql (lk rfl) (lk rfl)) rfl ?_
      refine Ops.u (Dtu.pickT (lk rfl) (lk rfl)) rfl ?_
      refine Ops.u (Dtu.mv (lk rfl)) rfl ?_
      refine Ops.decP 153 rfl (fun _ => ?_) (fun hn => absurd (by first | omega | assumption | decide) hn)
      refine Ops.gu rfl rfl rfl (Dtu.mv (lk rfl)) rfl ?_
      refine Ops.gs rfl rfl rfl (Stp.call rfl Try.call13 (lks rfl) (fun E' le hat => floor_nil E') ?_) rfl
      rintro _ _ ⟨rfl, rfl⟩
      refine Ops.gu rfl rfl rfl (Dtu.eql (lk rfl) (lk rfl)) rfl ?_
      refine Ops.u (Dtu.pickT (lk rfl) (lk rfl)) rfl ?_
      refine Ops.u (Dtu.mv (lk rfl)) rfl ?_
      refine Ops.decP 158 rfl (fun _ => ?_) (fun hn => absurd (by first | omega | assumption | decide) hn)
      refine Ops.gu rfl rfl rfl (Dtu.mv (lk rfl)) rfl ?_
      refine Ops.gs rfl rfl rfl (Stp.call rfl Try.call14 (lks rfl) (fun E' le hat => waits_nil E') ?_) rfl
      rintro _ _ rfl
      refine Ops.gu rfl rfl rfl (Dtu.lenS Try.underlying38 (Sl.osl 0 rfl) (lk rfl)) rfl ?_
      refine Ops.gs rfl rfl rfl (Stp.call rfl Try.call14 (lks rfl) (fun E' le hat => waits_zero E' _ (by first | exact At.mono (by assumption) le | exact hat _ (.head _) | exact hat _ (.tail _ (.head _)) | exact hat _ (.tail _ (.tail _ (.head _))) | exact hat _ (.tail _ (.tail _ (.tail _ (.head _)))) | exact hat _ (.tail _ (.tail _ (.tail _ (.tail _ (.head _))))) | exact hat _ (.tail _ (.tail _ (.tail _ (.tail _ (.tail _ (.head _)))))) | exact hat _ (.tail _ (.tail _ (.tail _ (.tail _ (.tail _ (.tail _ (.head _))))))) | exact hat _ (.tail _ (.tail _ (.tail _ (.tail _ (.tail _ (.tail _ (.tail _ (.head _)))))))) | exact hat _ (.tail _ (.tail _ (.tail _ (.tail _ (.tail _ (.tail _ (.tail _ (.tail _ (.head _))))))))) | exact hat _ (.tail _ (.tail _ (.tail _ (.tail _ (.tail _ (.tail _ (.tail _ (.tail _ (.tail _ (.head _)))))))))))) ?_) rfl
      rintro _ _ rfl
      refine Ops.gu rfl rfl rfl (Dtu.lenS Try.underlying38 (Sl.osl 0 rfl) (lk rfl)) rfl ?_
      refine Ops.gu rfl rfl rfl (Dtu.add (lk rfl) (lk rfl) (w64 (by omega) (by omega))) rfl ?_
      refine Ops.gu rfl rfl rfl (Dtu.mv (lk rfl)) rfl ?_
      refine Ops.gs rfl rfl rfl (Stp.call rfl Try.call19 (lks rfl) (fun E' le hat => missing_nil E' _) ?_) rfl
      rintro _ _ ⟨rfl, rfl⟩
      refine Ops.gu rfl rfl rfl (Dtu.add (lk rfl) (lk rfl) (w64 (by omega) (by omega))) rfl ?_
      refine Ops.gu rfl rfl rfl (Dtu.eql (lk rfl) (lk rfl)) rfl ?_
      refine Ops.u (Dtu.pickT (lk rfl) (lk rfl)) rfl ?_
      refine Ops.u (Dtu.asg (lk rfl)) rfl ?_
      refine Ops.nil ?_
      refine Then.next ?_
      refine Body.ret ?_
      exact ⟨.inr rfl, _, pk [] rfl, rfl, rfl⟩
end Go.Proofs.Ytagcpamchgpgiaa
end
section
/- 'Rows.JoinLivesSaid': longlinelaw10.JoinLives returns true, whatever parts come in; they read as they did. -/
namespace Go.Proofs.Ytagcpamchgpgiaa.joinLives
open Go.Sx Go.ChangeShapes Go.WideShapes Go.ChangeAt Go.RowKit
set_option linter.unusedVariables false

theorem own : ownKnob Try.prog.godebug = none := by kernel_rfl
theorem laidOut : laidOutB Try.prog = true := by kernel_rfl
theorem pars : (Try.f5.params.toList.all fun t => Try.prog.readableRec t && decide (t < Try.prog.types.size)) = true := by kernel_rfl

set_option maxRecDepth 100000 in
theorem lifted (os : Os) (started : os.Started) (H : Type) (enc : TypeId × Value → H) :
    ReturnsInHanded {} Try.checked os 5 .any (Rows.joinLivesSpec.pre6 enc Try.prog Try.f5 Rows.joinLivesRow.domain false) (Rows.joinLivesSpec.post enc Try.prog Try.f5 false true false false) := by
  refine returnsInHanded_of_change (C := Try.checked) own started (by kernel_rfl) Try.func5
    (ChangeSpec.witness6 (enc := enc) (C := Try.checked) false ⟨#[], #[.slice none 0 0], []⟩ 8 (by kernel_rfl) (by kernel_rfl) (by kernel_rfl) (by kernel_rfl)) ?_
  intro W base args ds gs before hval0 hW hcnd _
  have hval : ∀ (j : Nat) t v, Try.f5.params[j]? = some t → args[j]? = some v → Value.okWide Try.prog W .any base t v := hval0
  have hW' := hW
  obtain ⟨p, q, hA0, hV, rfl, hfz, hnd⟩ := hW
  have hA : DataW.TrodAll enc Try.prog W 0 (fun _ => true) true Try.f5.params.toList args.toList ds p := hA0
  rw [Try.params5] at hA hval
  obtain ⟨v0, vs0, d0, ds0, p0, q0, hargs, rfl, rfl, h0, r0⟩ := trodAll_cons hA
  obtain ⟨rfl, rfl, rfl⟩ := trodAll_nil r0
  obtain rfl : args = #[v0] := by cases args; simp_all
  obtain ⟨a, ln, cp, rfl⟩ := okWide_slice Try.underlying25 (hval 0 25 v0 rfl rfl)
  obtain ⟨n0, h0'⟩ := h0
  obtain ⟨s, l, es, hs, ho⟩ := trod_parts (cs := [.slice a ln cp]) h0'
  obtain rfl : Value.slice a ln cp = s := by simpa using es
  refine (lives10_ok (envOf W) _ l hs (fun p hp => (ho p hp).a) W St.all).mono ?_
  rintro e W' ⟨r, H', rfl, ⟨rfl, rfl⟩, s'⟩
  refine ⟨_, rfl, post_of_below (tb := 4) rfl rfl rfl Try.underlying4 laidOut (fun t ht => ?_) hW' (below_of_St s')⟩
  · have := List.all_eq_true.1 pars t ht
    rw [Bool.and_eq_true, decide_eq_true_eq] at this
    exact this

theorem over : Rows.joinLivesRow.holds Try.pinned (OpenSpec.ofChange Rows.joinLivesSpec) :=
  OpenClaim.holds_of_wide 5 Try.f5 rfl rfl rfl rfl rfl rfl rfl ⟨rfl, rfl, rfl, rfl, rfl⟩ rfl rfl rfl rfl rfl (by kernel_rfl) Try.func5 (by kernel_rfl)
    (of_decide_eq_true (by kernel_rfl)) (by unfold Func.isWrapper; first | (rw [if_pos (by decide +kernel)]; kernel_rfl) | (rw [if_neg (by decide +kernel)]; exact ⟨rfl, rfl⟩))
    (fun os started H enc _ => lifted os started H enc)

theorem proved : Rows.JoinLivesSaid := over
end Go.Proofs.Ytagcpamchgpgiaa.joinLives
end
