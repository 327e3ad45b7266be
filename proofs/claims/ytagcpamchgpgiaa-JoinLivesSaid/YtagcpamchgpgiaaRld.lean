/- QNlb: JoiG, Close, OpnJ, JoiK, JoiJ, JoiL. -/
import Derived.WalkKit
import Derived.ProofKit
import Derived.OpenShut
import Derived.Carry
import Derived.Test.YtagcpamchgpgiaaRla
import Derived.Test.YtagcpamchgpgiaaRlb
import Derived.Test.YtagcpamchgpgiaaRlc
section
/- longlinelaw10.alive; JoinBounds: the walk. -/
namespace Go.Proofs.Ytagcpamchgpgiaa
set_option maxRecDepth 100000
set_option maxHeartbeats 4000000
set_option linter.unusedVariables false
set_option linter.unusedSimpArgs false
open Go.Sx
theorem tb0_ok : (⟨1, []⟩ : Tb).Ok := ⟨Nat.le_refl _, by dsimp only; omega, by simp, by simp, by simp, by simp⟩
theorem tput_q (E : Env) (b : Nat) (T T' : Tb) (out : List Int) (is : Bool) (e : Int) (p : Prt) (hd : p.At E) (hq : T.put p = (⟨out, is, e⟩, T')) : Does Try.prog 12 #[.pointer (some ⟨b, 0, none⟩), .agg p.enc.toArray] E ([tabP b T]) fun r H' => ∃ v, r = .tuple #[v, .bool is, .int .i64 e] ∧ H' = [osl 5 1 v out.length (u8s out), tabP b T'] := by
  have := tput_t E b T p hd
  rw [hq] at this
  exact this
theorem waits_q (E : Env) (b : Nat) (T : Tb) (ws : List Nat) (hw : T.waits = ws) : Does Try.prog 14 #[.pointer (some ⟨b, 0, none⟩)] E ([tabP b T]) fun r H' => H' = [osl 22 1 r ws.length (ws.map u6), tabP b T] := by
  subst hw
  exact waits_t E b T
theorem alive10_ok (E : Env) : Does Try.prog 9 #[] E ([]) fun r H' => r = .bool true ∧ H' = [] := by
  refine Does.go _ _ Try.func9 rfl Try.ntmps9 rfl rfl ?_
  skip
  refine Body.seq ?_
  refine Body.region ?_
  refine Ops.u (Dtu.asg (lk rfl)) rfl ?_
  refine Ops.nil ?_
  refine Then.next ?_
  refine Body.seq ?_
  refine Body.region ?_
  refine Ops.s (Stp.call rfl Try.call11 (lks rfl) (fun E' le hat => jnew_ok E') ?_) rfl
  rintro _ _ ⟨t13, rfl, rfl⟩
  refine Ops.u (Dtu.asg (lk rfl)) rfl ?_
  refine Ops.nil ?_
  refine Then.next ?_
  refine Body.seq ?_
  refine Body.region ?_
  refine Ops.s (Stp.make (m := 500) Try.underlying23 ty5 rfl (lk rfl) (lk rfl) (by omega) (by omega) (by omega) (fun v15 => ?_)) rfl
  refine Ops.s (Stp.call rfl Try.call10 (lks rfl) (fun E' le hat => split_ok E' 3 _ (List.replicate 500 (0 : Int)) (by first | (rw [List.length_replicate, u8s, List.map_replicate]; exact (by first | exact Sl.mono (by assumption) le | exact Sl.hatI hat 0 rfl | exact Sl.hatI hat 1 rfl | exact Sl.hatI hat 2 rfl | exact Sl.hatI hat 3 rfl | exact Sl.hatI hat 4 rfl | exact Sl.hatI hat 5 rfl | exact Sl.hatI hat 6 rfl | exact Sl.hatI hat 7 rfl | exact Sl.hatI hat 8 rfl | exact Sl.hatI hat 9 rfl | exact Sl.hatI hat 10 rfl | exact Sl.hatI hat 11 rfl | exact Sl.hatI hat 12 rfl | exact Sl.hatI hat 13 rfl | exact Sl.hatI hat 14 rfl | exact Sl.hatI hat 15 rfl | exact Sl.hatW hat 0 rfl | exact Sl.hatW hat 1 rfl | exact Sl.hatW hat 2 rfl | exact Sl.hatW hat 3 rfl | exact Sl.hatW hat 4 rfl | exact Sl.hatW hat 5 rfl | exact Sl.hatW hat 6 rfl | exact Sl.hatW hat 7 rfl | exact Sl.hatW hat 8 rfl | exact Sl.hatW hat 9 rfl))) (by rw [List.length_replicate]; omega) (by omega) (by omega)) ?_) rfl
  rintro _ _ ⟨v16, ps16, L16, rfl, rfl, so16⟩
  refine Ops.u (Dtu.mv (lk rfl)) rfl ?_
  refine Ops.u (Dtu.ext (lk rfl) rfl) rfl ?_
  refine Ops.u (Dtu.ext (lk rfl) rfl) rfl ?_
  refine Ops.u (Dtu.asg (lk rfl)) rfl ?_
  refine Ops.u (Dtu.asg (lk rfl)) rfl ?_
  refine Ops.nil ?_
  refine Then.next ?_
  refine Body.seq ?_
  have hpl : ps16.length = 2 := by rw [so16.len]; decide
  have ho0 := so16.own 0 (by omega)
  have ho1 := so16.own 1 (by omega)
  have hz5 : ((List.replicate 500 (0 : Int))).length ≤ 24000 := by simp
  have hn0 : ∀ i, (List.replicate 64 false)[i]! = true → i < ps16.length := fun i h => by
    exfalso
    by_cases hi : i < 64
    · rw [getElem!_pos _ i (by simpa using hi), List.getElem_replicate] at h; cases h
    · rw [getElem!_neg _ i (by simpa using hi)] at h; cases h
  have he1 := put_next (k := 1) (came := List.replicate 64 false) so16 hz5 (by omega) (by omega) (by omega) rfl rfl hn0
  have hn1 : ∀ i, ((List.replicate 64 false).set 1 true)[i]! = true → i < ps16.length := fun i h => by
    by_cases hi : i = 1
    · omega
    · refine hn0 i ?_
      by_cases hl : i < 64
      · rw [getElem!_pos _ i (by simpa using hl), List.getElem_set_ne (fun h => hi h.symm)] at h
        rw [getElem!_pos _ i (by simpa using hl)]; exact h
      · rw [getElem!_neg _ i (by simpa using hl)] at h; cases h
  have he2 := put_next (k := 0) (came := (List.replicate 64 false).set 1 true) so16 hz5 (by omega) (by omega) (by omega) rfl rfl hn1
  have hc0 : (List.replicate 64 false).countP tbOf.id' = 0 := by decide
  have hc1 : ((List.replicate 64 false).set 1 true).countP tbOf.id' = 1 := by decide
  rw [hc0, hpl, if_pos (by omega)] at he1
  rw [hc1, hpl, if_neg (by omega)] at he2
  have he3 := put_old (k := 0) so16 hz5 (by omega) (by omega) (by omega)
  have ht0 : tbOf 3 ps16 (List.replicate 64 false) = ⟨1, []⟩ := rfl
  rw [ht0] at he1
  have hzl : ((List.replicate 500 (0 : Int))).length = 500 := by simp
  generalize tbOf 3 ps16 ((List.replicate 64 false).set 1 true) = T1 at *
  have hw : (⟨3 + 1, []⟩ : Tb).waits = [] := by simp [Tb.waits]
  generalize (List.replicate 500 (0 : Int)) = z5 at *
  refine Body.seq ?_
  refine Body.region ?_
  refine Ops.u (Dtu.mv (lk rfl)) rfl ?_
  refine Ops.u (Dtu.neq (lk rfl) (lk rfl)) rfl ?_
  refine Ops.u (Dtu.mv (lk rfl)) rfl ?_
  refine Ops.decP 21 rfl (fun hy => absurd hy (by first | omega | assumption | decide)) (fun _ => ?_)
  refine Ops.gu rfl rfl rfl (Dtu.mv (lk rfl)) rfl ?_
  refine Ops.gu rfl rfl rfl (Dtu.lenS Try.underlying25 (Sl.osl 0 rfl) (lk rfl)) rfl ?_
  refine Ops.gu rfl rfl rfl (Dtu.neq (lk rfl) (lk rfl)) rfl ?_
  refine Ops.u (Dtu.pickF (lk rfl) (lk rfl)) rfl ?_
  refine Ops.nil ?_
  refine Then.next ?_
  refine Body.condP (lk rfl) (fun hy => absurd hy (by first | omega | assumption | decide)) (fun _ => ?_)
  refine Body.skip ?_
  refine Then.next ?_
  refine Body.seq ?_
  refine Body.region ?_
  refine Ops.u (Dtu.mv (lk rfl)) rfl ?_
  refine Ops.u (Dtu.mv (lk rfl)) rfl ?_
  refine Ops.u (Dtu.ix (i := 1) Try.underlying25 Try.sizeOf35 (Sl.osl 0 rfl) (lk rfl) (lk rfl) (by omega) (by omega)) rfl ?_
  refine Ops.d (Det.lda Try.isAgg35 Try.sizeOf35 (lk rfl) (Rds.sl (Sl.osl 0 rfl) (gf (sz := 4) (fun _ => rfl) (by omega))) rfl) rfl ?_
  refine Ops.s (Stp.callOwn [3] rfl rfl Try.call12 (lks rfl) (fun E' le hat => tput_q E' _ _ _ _ _ _ ps16[1]! (poolSl (L := L16) (by first | exact At.mono (by assumption) le | exact hat _ (.head _) | exact hat _ (.tail _ (.head _)) | exact hat _ (.tail _ (.tail _ (.head _))) | exact hat _ (.tail _ (.tail _ (.tail _ (.head _)))) | exact hat _ (.tail _ (.tail _ (.tail _ (.tail _ (.head _))))) | exact hat _ (.tail _ (.tail _ (.tail _ (.tail _ (.tail _ (.head _)))))) | exact hat _ (.tail _ (.tail _ (.tail _ (.tail _ (.tail _ (.tail _ (.head _))))))) | exact hat _ (.tail _ (.tail _ (.tail _ (.tail _ (.tail _ (.tail _ (.tail _ (.head _)))))))) | exact hat _ (.tail _ (.tail _ (.tail _ (.tail _ (.tail _ (.tail _ (.tail _ (.tail _ (.head _))))))))) | exact hat _ (.tail _ (.tail _ (.tail _ (.tail _ (.tail _ (.tail _ (.tail _ (.tail _ (.tail _ (.head _))))))))))) ho1) he1) ?_) rfl
  rintro _ _ ⟨v31, rfl, rfl⟩
  refine Ops.u (Dtu.mv (lk rfl)) rfl ?_
  refine Ops.u (Dtu.ext (lk rfl) rfl) rfl ?_
  refine Ops.u (Dtu.ext (lk rfl) rfl) rfl ?_
  refine Ops.u (Dtu.ext (lk rfl) rfl) rfl ?_
  refine Ops.u (Dtu.asg (lk rfl)) rfl ?_
  refine Ops.u (Dtu.asg (lk rfl)) rfl ?_
  refine Ops.u (Dtu.asg (lk rfl)) rfl ?_
  refine Ops.nil ?_
  refine Then.next ?_
  refine Body.seq ?_
  refine Body.region ?_
  refine Ops.u (Dtu.mv (lk rfl)) rfl ?_
  refine Ops.u (Dtu.mv (lk rfl)) rfl ?_
  refine Ops.u (Dtu.ix (i := 0) Try.underlying25 Try.sizeOf35 (Sl.osl 2 rfl) (lk rfl) (lk rfl) (by omega) (by omega)) rfl ?_
  refine Ops.d (Det.lda Try.isAgg35 Try.sizeOf35 (lk rfl) (Rds.sl (Sl.osl 2 rfl) (gf (sz := 4) (fun _ => rfl) (by omega))) rfl) rfl ?_
  refine Ops.s (Stp.callOwn [1] rfl rfl Try.call12 (lks rfl) (fun E' le hat => tput_q E' _ _ _ _ _ _ ps16[0]! (poolSl (L := L16) (by first | exact At.mono (by assumption) le | exact hat _ (.head _) | exact hat _ (.tail _ (.head _)) | exact hat _ (.tail _ (.tail _ (.head _))) | exact hat _ (.tail _ (.tail _ (.tail _ (.head _)))) | exact hat _ (.tail _ (.tail _ (.tail _ (.tail _ (.head _))))) | exact hat _ (.tail _ (.tail _ (.tail _ (.tail _ (.tail _ (.head _)))))) | exact hat _ (.tail _ (.tail _ (.tail _ (.tail _ (.tail _ (.tail _ (.head _))))))) | exact hat _ (.tail _ (.tail _ (.tail _ (.tail _ (.tail _ (.tail _ (.tail _ (.head _)))))))) | exact hat _ (.tail _ (.tail _ (.tail _ (.tail _ (.tail _ (.tail _ (.tail _ (.tail _ (.head _))))))))) | exact hat _ (.tail _ (.tail _ (.tail _ (.tail _ (.tail _ (.tail _ (.tail _ (.tail _ (.tail _ (.head _))))))))))) ho0) he2) ?_) rfl
  rintro _ _ ⟨v40, rfl, rfl⟩
  refine Ops.u (Dtu.mv (lk rfl)) rfl ?_
  refine Ops.u (Dtu.ext (lk rfl) rfl) rfl ?_
  refine Ops.u (Dtu.ext (lk rfl) rfl) rfl ?_
  refine Ops.u (Dtu.ext (lk rfl) rfl) rfl ?_
  refine Ops.u (Dtu.asg (lk rfl)) rfl ?_
  refine Ops.u (Dtu.asg (lk rfl)) rfl ?_
  refine Ops.u (Dtu.asg (lk rfl)) rfl ?_
  refine Ops.nil ?_
  refine Then.next ?_
  refine Body.seq ?_
  refine Body.region ?_
  refine Ops.u (Dtu.mv (lk rfl)) rfl ?_
  refine Ops.u (Dtu.mv (lk rfl)) rfl ?_
  refine Ops.u (Dtu.ix (i := 0) Try.underlying25 Try.sizeOf35 (Sl.osl 3 rfl) (lk rfl) (lk rfl) (by omega) (by omega)) rfl ?_
  refine Ops.d (Det.lda Try.isAgg35 Try.sizeOf35 (lk rfl) (Rds.sl (Sl.osl 3 rfl) (gf (sz := 4) (fun _ => rfl) (by omega))) rfl) rfl ?_
  refine Ops.s (Stp.callOwn [1] rfl rfl Try.call12 (lks rfl) (fun E' le hat => tput_q E' _ _ _ _ _ _ ps16[0]! (poolSl (L := L16) (by first | exact At.mono (by assumption) le | exact hat _ (.head _) | exact hat _ (.tail _ (.head _)) | exact hat _ (.tail _ (.tail _ (.head _))) | exact hat _ (.tail _ (.tail _ (.tail _ (.head _)))) | exact hat _ (.tail _ (.tail _ (.tail _ (.tail _ (.head _))))) | exact hat _ (.tail _ (.tail _ (.tail _ (.tail _ (.tail _ (.head _)))))) | exact hat _ (.tail _ (.tail _ (.tail _ (.tail _ (.tail _ (.tail _ (.head _))))))) | exact hat _ (.tail _ (.tail _ (.tail _ (.tail _ (.tail _ (.tail _ (.tail _ (.head _)))))))) | exact hat _ (.tail _ (.tail _ (.tail _ (.tail _ (.tail _ (.tail _ (.tail _ (.tail _ (.head _))))))))) | exact hat _ (.tail _ (.tail _ (.tail _ (.tail _ (.tail _ (.tail _ (.tail _ (.tail _ (.tail _ (.head _))))))))))) ho0) he3) ?_) rfl
  rintro _ _ ⟨v49, rfl, rfl⟩
  refine Ops.u (Dtu.mv (lk rfl)) rfl ?_
  refine Ops.u (Dtu.ext (lk rfl) rfl) rfl ?_
  refine Ops.u (Dtu.ext (lk rfl) rfl) rfl ?_
  refine Ops.u (Dtu.ext (lk rfl) rfl) rfl ?_
  refine Ops.u (Dtu.asg (lk rfl)) rfl ?_
  refine Ops.u (Dtu.asg (lk rfl)) rfl ?_
  refine Ops.u (Dtu.asg (lk rfl)) rfl ?_
  refine Ops.nil ?_
  refine Then.next ?_
  refine Body.seq ?_
  refine Body.region ?_
  refine Ops.u (Dtu.mv (lk rfl)) rfl ?_
  refine Ops.u (Dtu.not (lk rfl)) rfl ?_
  refine Ops.u (Dtu.mv (lk rfl)) rfl ?_
  refine Ops.gu rfl rfl rfl (Dtu.mv (lk rfl)) rfl ?_
  refine Ops.gu rfl rfl rfl (Dtu.eql (lk rfl) (lk rfl)) rfl ?_
  refine Ops.u (Dtu.pickT (lk rfl) (lk rfl)) rfl ?_
  refine Ops.u (Dtu.mv (lk rfl)) rfl ?_
  refine Ops.decP 59 rfl (fun _ => ?_) (fun hn => absurd (by first | omega | assumption | decide) hn)
  refine Ops.gu rfl rfl rfl (Dtu.mv (lk rfl)) rfl ?_
  refine Ops.u (Dtu.pickT (lk rfl) (lk rfl)) rfl ?_
  refine Ops.u (Dtu.mv (lk rfl)) rfl ?_
  refine Ops.gu rfl rfl rfl (Dtu.mv (lk rfl)) rfl ?_
  refine Ops.gu rfl rfl rfl (Dtu.eql (lk rfl) (lk rfl)) rfl ?_
  refine Ops.u (Dtu.pickT (lk rfl) (lk rfl)) rfl ?_
  refine Ops.u (Dtu.mv (lk rfl)) rfl ?_
  refine Ops.decP 66 rfl (fun _ => ?_) (fun hn => absurd (by first | omega | assumption | decide) hn)
  refine Ops.gu rfl rfl rfl (Dtu.mv (lk rfl)) rfl ?_
  refine Ops.gu rfl rfl rfl (Dtu.lenS Try.underlying23 (Sl.osl 2 rfl) (lk rfl)) rfl ?_
  refine Ops.gu rfl rfl rfl (Dtu.eql (lk rfl) (lk rfl)) rfl ?_
  refine Ops.u (Dtu.pickT (lk rfl) (lk rfl)) rfl ?_
  refine Ops.u (Dtu.mv (lk rfl)) rfl ?_
  refine Ops.decP 71 rfl (fun _ => ?_) (fun hn => absurd (by first | omega | assumption | decide) hn)
  refine Ops.gu rfl rfl rfl (Dtu.mv (lk rfl)) rfl ?_
  refine Ops.gu rfl rfl rfl (Dtu.eql (lk rfl) (lk rfl)) rfl ?_
  refine Ops.u (Dtu.pickT (lk rfl) (lk rfl)) rfl ?_
  refine Ops.u (Dtu.mv (lk rfl)) rfl ?_
  refine Ops.decP 75 rfl (fun _ => ?_) (fun hn => absurd (by first | omega | assumption | decide) hn)
  refine Ops.gu rfl rfl rfl (Dtu.mv (lk rfl)) rfl ?_
  refine Ops.gs rfl rfl rfl (Stp.call rfl Try.call13 (lks rfl) (fun E' le hat => floor_r E' _ _ (by first | exact At.mono (by assumption) le | exact hat _ (.head _) | exact hat _ (.tail _ (.head _)) | exact hat _ (.tail _ (.tail _ (.head _))) | exact hat _ (.tail _ (.tail _ (.tail _ (.head _)))) | exact hat _ (.tail _ (.tail _ (.tail _ (.tail _ (.head _))))) | exact hat _ (.tail _ (.tail _ (.tail _ (.tail _ (.tail _ (.head _)))))) | exact hat _ (.tail _ (.tail _ (.tail _ (.tail _ (.tail _ (.tail _ (.head _))))))) | exact hat _ (.tail _ (.tail _ (.tail _ (.tail _ (.tail _ (.tail _ (.tail _ (.head _)))))))) | exact hat _ (.tail _ (.tail _ (.tail _ (.tail _ (.tail _ (.tail _ (.tail _ (.tail _ (.head _))))))))) | exact hat _ (.tail _ (.tail _ (.tail _ (.tail _ (.tail _ (.tail _ (.tail _ (.tail _ (.tail _ (.head _)))))))))))) ?_) rfl
  rintro _ _ ⟨rfl, rfl⟩
  refine Ops.gu rfl rfl rfl (Dtu.eql (lk rfl) (lk rfl)) rfl ?_
  refine Ops.u (Dtu.pickT (lk rfl) (lk rfl)) rfl ?_
  refine Ops.u (Dtu.mv (lk rfl)) rfl ?_
  refine Ops.decP 80 rfl (fun _ => ?_) (fun hn => absurd (by first | omega | assumption | decide) hn)
  refine Ops.gu rfl rfl rfl (Dtu.mv (lk rfl)) rfl ?_
  refine Ops.gs rfl rfl rfl (Stp.callOwn [1] rfl rfl Try.call14 (lks rfl) (fun E' le hat => waits_q E' _ _ _ hw) ?_) rfl
  rintro _ _ rfl
  refine Ops.gu rfl rfl rfl (Dtu.lenS Try.underlying38 (Sl.osl 0 rfl) (lk rfl)) rfl ?_
  refine Ops.gu rfl rfl rfl (Dtu.eql (lk rfl) (lk rfl)) rfl ?_
  refine Ops.u (Dtu.pickT (lk rfl) (lk rfl)) rfl ?_
  refine Ops.u (Dtu.asg (lk rfl)) rfl ?_
  refine Ops.nil ?_
  refine Then.next ?_
  refine Body.ret ?_
  exact ⟨.inr rfl, _, pk [] rfl, rfl, rfl⟩
end Go.Proofs.Ytagcpamchgpgiaa
end
section
/- From a contract to the statement's conclusion: a call that writes nothing of what was there, and returns true. -/
namespace Go.Proofs.Ytagcpamchgpgiaa
set_option linter.unusedVariables false
open Go.Sx Go.ChangeShapes Go.RowKit Go.WideShapes Go.ChangeAt

theorem below_of_St {W W' : World} {H : List HProp} (s : St (envOf W) H W') : Below W.heap.size W W' where
  os := s.os
  tape := s.tape
  output := s.output
  block := fun k hk => by
    have h : W.heap[k]? = some W.heap[k] := Array.getElem?_eq_getElem hk
    have := s.keep k _ h
    rw [h]; exact this
  size := by
    by_cases h0 : W.heap.size = 0
    · omega
    · have hk : W.heap.size - 1 < W.heap.size := by omega
      have h : W.heap[W.heap.size - 1]? = some W.heap[W.heap.size - 1] := Array.getElem?_eq_getElem hk
      have h2 : W'.heap[W.heap.size - 1]? = some W.heap[W.heap.size - 1] := s.keep _ _ h
      have := (Array.getElem?_eq_some_iff.1 h2).1
      omega
section
variable {H : Type} {enc : TypeId × Value → H} {P : Program}
theorem trodAll_below (hl : laidOutB P = true) {W W' : World} (hb : Below W.heap.size W W') (sp : Nat → Bool) : ∀ {ts : List TypeId} {vs : List Value} {ds : List (DataW H)} {ps : List MemPlace},
    (∀ t ∈ ts, P.readableRec t = true ∧ t < P.types.size) → DataW.TrodAll enc P W 0 (fun _ => true) true ts vs ds ps → (∀ x ∈ ps, x.block < W.heap.size) → (∀ x ∈ ps, sp x.block = true) → DataW.TrodAll enc P W' 0 sp true ts vs ds ps
  | [], [], [], _, _, h, _, _ => h
  | t :: _, _ :: _, _ :: _, _, ht, ⟨p, q, h1, h2, e⟩, hlt, hs =>
    ⟨p, q, WideElems.Trod_stays hl (ht t (by simp)).1 (ht t (by simp)).2 h1 (fun x hx => hb.same (hlt x (by rw [e]; exact List.mem_append_left _ hx))) (fun x hx => hs x (by rw [e]; exact List.mem_append_left _ hx)),
      trodAll_below hl hb sp (fun t' ht' => ht t' (List.mem_cons_of_mem _ ht')) h2 (fun x hx => hlt x (by rw [e]; exact List.mem_append_right _ hx)) (fun x hx => hs x (by rw [e]; exact List.mem_append_right _ hx)), e⟩
theorem post_of_below {f : Func} {s : ChangeSpec} {apart fresh handsOn : Bool} {W W' : World} {args : Array Value} {ds gs : List (DataW H)} {before : List MemPlace} {tb : TypeId}
    (hvars : s.vars = []) (hfn : s.fn H ds = { results := [.lit (.bool true)], args := ds }) (hres : f.resultTypes = #[tb]) (hub : P.underlying tb = some .bool)
    (hl : laidOutB P = true) (hpar : ∀ t ∈ f.params.toList, P.readableRec t = true ∧ t < P.types.size)
    (hW : DataW.Whole enc P f.params.toList s.vars apart W args.toList ds gs before) (hb : Below W.heap.size W W') : s.post enc P f apart fresh handsOn false W args (.bool true) W' := by
  have hlt : ∀ x ∈ before, x.block < W.heap.size := fun x hx => by simpa using hW.lt x hx
  have hW' := hW
  obtain ⟨p, q, hA, hV, rfl, _, _⟩ := hW
  rw [hvars] at hV
  obtain ⟨rfl, rfl⟩ := trodVars_none hV
  rw [List.append_nil] at hW' hlt
  refine ⟨ds, [], p, [], p, [], hW', ?_, ?_, ?_, hb.frame _, fun h => by cases h⟩
  · rw [List.append_nil, hfn, hres]
    exact trodAll_cons_mk (shut_bool hub _) trodAll_mk0
  · rw [List.append_nil, hfn]
    exact trodAll_below hl hb _ hpar hA hlt (fun x hx => by simpa using hlt x hx)
  · rw [List.append_nil, hfn, hvars]; exact rfl
end
end Go.Proofs.Ytagcpamchgpgiaa
end
section
/- Parts as arguments. -/
namespace Go.Proofs.Ytagcpamchgpgiaa
set_option maxRecDepth 100000
set_option linter.unusedVariables false
set_option linter.unusedSimpArgs false
open Go.Sx Go.ChangeShapes Go.RowKit Go.WideShapes
section
variable {H : Type} {enc : TypeId × Value → H} {W : World} {base : Nat} {held : Bool} {fuel : Nat} {cs : List Value} {x : DataW H × List MemPlace}
theorem cells4_35 : Try.prog.cellsOf 35 = 4 := by kernel_rfl
theorem cells1_22 : Try.prog.cellsOf 22 = 1 := by kernel_rfl
theorem cells1_3 : Try.prog.cellsOf 3 = 1 := by kernel_rfl
structure Prt.In (p : Prt) (E : Env) : Prop where
  a : p.At E
  i : p.id ≤ 18446744073709551615
  b : ∀ x ∈ p.d, 0 ≤ x ∧ x ≤ 255
  x0 : -9223372036854775808 ≤ p.ix
  x1 : p.ix ≤ 9223372036854775807
  c0 : -9223372036854775808 ≤ p.ct
  c1 : p.ct ≤ 9223372036854775807
theorem trod_part (h : DataW.trod enc Try.prog W base (fun _ => true) held fuel 35 cs = some x) : ∃ p : Prt, cs = p.enc ∧ p.In (envOf W) := by
  have hl := lenT Try.underlying35 h
  rw [cells4_35] at hl
  match cs, hl with
  | [v0, v1, v2, v3], _ =>
    obtain ⟨n0, y0, h0⟩ := fldT Try.underlying35 h 0 22 0 1 rfl rfl rfl cells1_22
    obtain ⟨n1, y1, h1⟩ := fldT Try.underlying35 h 1 3 1 1 rfl rfl rfl cells1_3
    obtain ⟨n2, y2, h2⟩ := fldT Try.underlying35 h 2 3 2 1 rfl rfl rfl cells1_3
    obtain ⟨n3, y3, h3⟩ := fldT Try.underlying35 h 3 23 3 1 rfl rfl rfl cells1_23
    obtain ⟨a0, e0, _, w0⟩ := DataW.trod_int Try.underlying22 h0
    obtain ⟨a1, e1, _, w1⟩ := DataW.trod_int Try.underlying3 h1
    obtain ⟨a2, e2, _, w2⟩ := DataW.trod_int Try.underlying3 h2
    obtain ⟨s, d, e3, hs, hb⟩ := trod_bys h3
    have b0 := bounds_u64 w0
    have b1 := bounds_i64 w1
    have b2 := bounds_i64 w2
    simp at e0 e1 e2 e3
    subst e0 e1 e2 e3
    refine ⟨⟨a0.toNat, a1, a2, d, v3⟩, ?_, hs, by dsimp only; omega, hb, b1.1, b1.2, b2.1, b2.2⟩
    simp only [Prt.enc, Int.toNat_of_nonneg b0.1]
theorem trod_parts (h : DataW.trod enc Try.prog W base (fun _ => true) held fuel 25 cs = some x) : ∃ (s : Value) (l : List Prt), cs = [s] ∧ Sl (envOf W) [] 4 s l.length (l.flatMap Prt.enc) ∧ ∀ p ∈ l, p.In (envOf W) :=
  trod_list Try.underlying25 cells4_35 (by omega) (fun _ => rfl) (fun h => trod_part h) h
end
end Go.Proofs.Ytagcpamchgpgiaa
end
section
/- The document's tables: what their functions say of a list of parts. -/
namespace Go.Proofs.Ytagcpamchgpgiaa
set_option maxRecDepth 100000
set_option maxHeartbeats 4000000
set_option linter.unusedVariables false
set_option linter.unusedSimpArgs false
open Go.Sx
theorem as_ok (E : Env) (p : Prt) (hd : p.At E) : Does Try.prog 17 #[.agg p.enc.toArray] E ([]) fun r H' => r = .agg p.enc.toArray ∧ H' = [] := by
  have hds : Sl E [] 1 p.s p.d.length (p.d.map (.int .u8)) := hd
  refine Does.pure hds.shape fun hsh => ?_
  obtain ⟨sa, sc, hs'⟩ := hsh
  obtain ⟨id, ix, ct, d, s⟩ := p
  dsimp only at hs'
  subst hs'
  refine Does.go _ _ Try.func17 rfl Try.ntmps17 rfl rfl ?_
  skip
  refine Body.seq ?_
  refine Body.region ?_
  refine Ops.s (Stp.box (lk rfl) rfl (fun b1 => ?_)) rfl
  refine Ops.s (Stp.alloc ty44 (fun b2 => ?_)) rfl
  refine Ops.nil ?_
  refine Then.next ?_
  refine Body.seq ?_
  refine Body.region ?_
  refine Ops.u (Dtu.fld fa35_0 (lk rfl)) rfl ?_
  refine Ops.d (Det.ld Try.isAgg22 (lk rfl) (Rd.ow 1 rfl rfl)) rfl ?_
  refine Ops.u (Dtu.fld fa35_1 (lk rfl)) rfl ?_
  refine Ops.d (Det.ld Try.isAgg3 (lk rfl) (Rd.ow 1 rfl rfl)) rfl ?_
  refine Ops.u (Dtu.fld fa35_2 (lk rfl)) rfl ?_
  refine Ops.d (Det.ld Try.isAgg3 (lk rfl) (Rd.ow 1 rfl rfl)) rfl ?_
  refine Ops.u (Dtu.fld fa35_3 (lk rfl)) rfl ?_
  refine Ops.d (Det.ld Try.isAgg23 (lk rfl) (Rd.ow 1 rfl rfl)) rfl ?_
  refine Ops.u (Dtu.build ty44 pl44 (lkp rfl) rfl rfl) rfl ?_
  refine Ops.e (Stp.store 0 Try.sizeOf44 (lk rfl) (lk rfl) rfl rfl rfl rfl rfl rfl rfl ?_)
  refine Ops.nil ?_
  refine Then.next ?_
  refine Body.ret ?_
  exact ⟨.inr rfl, _, Loads.agg Try.isAgg44 Try.sizeOf44 (Rds.ow (m := 4) 0 rfl rfl) rfl, _, pk [] rfl, rfl, rfl⟩
theorem rright_ok (E : Env) (p : Prt) (hd : p.At E) : Does Try.prog 45 #[.agg p.enc.toArray] E ([]) fun r H' => r = .bool (decide p.Ok) ∧ H' = [] := by
  unfold Prt.At at hd
  have hok := p.ok_iff
  refine Does.go _ _ Try.func45 rfl Try.ntmps45 rfl rfl ?_
  skip
  refine Body.seq ?_
  refine Body.region ?_
  refine Ops.s (Stp.box (lk rfl) rfl (fun b1 => ?_)) rfl
  refine Ops.u (Dtu.asg (lk rfl)) rfl ?_
  refine Ops.nil ?_
  refine Then.next ?_
  refine Body.seq ?_
  refine Body.seq ?_
  refine Body.region ?_
  refine Ops.u (Dtu.fld fa44_0 (lk rfl)) rfl ?_
  refine Ops.d (Det.ld Try.isAgg22 (lk rfl) (Rd.ow 0 rfl rfl)) rfl ?_
  refine Ops.u (Dtu.eql (lk rfl) (lk rfl)) rfl ?_
  refine Ops.u (Dtu.mv (lk rfl)) rfl ?_
  refine Ops.decP 6 rfl (fun c6 => ?_) (fun c6 => ?_)
  · refine Ops.gn rfl rfl rfl rfl rfl ?_
    refine Ops.gn rfl rfl rfl rfl rfl ?_
    refine Ops.gn rfl rfl rfl rfl rfl ?_
    refine Ops.u (Dtu.pickT (lk rfl) (lk rfl)) rfl ?_
    refine Ops.u (Dtu.mv (lk rfl)) rfl ?_
    refine Ops.gn rfl rfl rfl rfl rfl ?_
    refine Ops.gn rfl rfl rfl rfl rfl ?_
    refine Ops.gn rfl rfl rfl rfl rfl ?_
    refine Ops.u (Dtu.pickT (lk rfl) (lk rfl)) rfl ?_
    refine Ops.u (Dtu.mv (lk rfl)) rfl ?_
    refine Ops.gn rfl rfl rfl rfl rfl ?_
    refine Ops.gn rfl rfl rfl rfl rfl ?_
    refine Ops.gn rfl rfl rfl rfl rfl ?_
    refine Ops.u (Dtu.pickT (lk rfl) (lk rfl)) rfl ?_
    refine Ops.u (Dtu.mv (lk rfl)) rfl ?_
    refine Ops.gn rfl rfl rfl rfl rfl ?_
    refine Ops.gn rfl rfl rfl rfl rfl ?_
    refine Ops.gn rfl rfl rfl rfl rfl ?_
    refine Ops.u (Dtu.pickT (lk rfl) (lk rfl)) rfl ?_
    refine Ops.u (Dtu.mv (lk rfl)) rfl ?_
    refine Ops.gn rfl rfl rfl rfl rfl ?_
    refine Ops.gn rfl rfl rfl rfl rfl ?_
    refine Ops.gn rfl rfl rfl rfl rfl ?_
    refine Ops.gn rfl rfl rfl rfl rfl ?_
    refine Ops.gn rfl rfl rfl rfl rfl ?_
    refine Ops.u (Dtu.pickT (lk rfl) (lk rfl)) rfl ?_
    refine Ops.nil ?_
    refine Then.next ?_
    refine Body.condT (lk rfl) ?_
    refine Body.seq ?_
    refine Body.region ?_
    refine Ops.u (Dtu.asg (lk rfl)) rfl ?_
    refine Ops.nil ?_
    refine Then.next ?_
    refine Body.ret ?_
    refine Then.ret ?_
    exact ⟨.inr rfl, _, pk [] rfl, congrArg Value.bool (decide_eq_false fun h => by have := hok.1 h; omega).symm, rfl⟩
  · refine Ops.gu rfl rfl rfl (Dtu.fld fa44_0 (lk rfl)) rfl ?_
    refine Ops.gd rfl rfl rfl (Det.ld Try.isAgg22 (lk rfl) (Rd.ow 0 rfl rfl)) rfl ?_
    refine Ops.gu rfl rfl rfl (Dtu.gtr (lk rfl) (lk rfl)) rfl ?_
    refine Ops.u (Dtu.pickF (lk rfl) (lk rfl)) rfl ?_
    refine Ops.u (Dtu.mv (lk rfl)) rfl ?_
    refine Ops.decP 11 rfl (fun c11 => ?_) (fun c11 => ?_)
    · refine Ops.gn rfl rfl rfl rfl rfl ?_
      refine Ops.gn rfl rfl rfl rfl rfl ?_
      refine Ops.gn rfl rfl rfl rfl rfl ?_
      refine Ops.u (Dtu.pickT (lk rfl) (lk rfl)) rfl ?_
      refine Ops.u (Dtu.mv (lk rfl)) rfl ?_
      refine Ops.gn rfl rfl rfl rfl rfl ?_
      refine Ops.gn rfl rfl rfl rfl rfl ?_
      refine Ops.gn rfl rfl rfl rfl rfl ?_
      refine Ops.u (Dtu.pickT (lk rfl) (lk rfl)) rfl ?_
      refine Ops.u (Dtu.mv (lk rfl)) rfl ?_
      refine Ops.gn rfl rfl rfl rfl rfl ?_
      refine Ops.gn rfl rfl rfl rfl rfl ?_
      refine Ops.gn rfl rfl rfl rfl rfl ?_
      refine Ops.u (Dtu.pickT (lk rfl) (lk rfl)) rfl ?_
      refine Ops.u (Dtu.mv (lk rfl)) rfl ?_
      refine Ops.gn rfl rfl rfl rfl rfl ?_
      refine Ops.gn rfl rfl rfl rfl rfl ?_
      refine Ops.gn rfl rfl rfl rfl rfl ?_
      refine Ops.gn rfl rfl rfl rfl rfl ?_
      refine Ops.gn rfl rfl rfl rfl rfl ?_
      refine Ops.u (Dtu.pickT (lk rfl) (lk rfl)) rfl ?_
      refine Ops.nil ?_
      refine Then.next ?_
      refine Body.condT (lk rfl) ?_
      refine Body.seq ?_
      refine Body.region ?_
      refine Ops.u (Dtu.asg (lk rfl)) rfl ?_
      refine Ops.nil ?_
      refine Then.next ?_
      refine Body.ret ?_
      refine Then.ret ?_
      exact ⟨.inr rfl, _, pk [] rfl, congrArg Value.bool (decide_eq_false fun h => by have := hok.1 h; omega).symm, rfl⟩
    · refine Ops.gu rfl rfl rfl (Dtu.fld fa44_2 (lk rfl)) rfl ?_
      refine Ops.gd rfl rfl rfl (Det.ld Try.isAgg3 (lk rfl) (Rd.ow 0 rfl rfl)) rfl ?_
      refine Ops.gu rfl rfl rfl (Dtu.lss (lk rfl) (lk rfl)) rfl ?_
      refine Ops.u (Dtu.pickF (lk rfl) (lk rfl)) rfl ?_
      refine Ops.u (Dtu.mv (lk rfl)) rfl ?_
      refine Ops.decP 16 rfl (fun c16 => ?_) (fun c16 => ?_)
      · refine Ops.gn rfl rfl rfl rfl rfl ?_
        refine Ops.gn rfl rfl rfl rfl rfl ?_
        refine Ops.gn rfl rfl rfl rfl rfl ?_
        refine Ops.u (Dtu.pickT (lk rfl) (lk rfl)) rfl ?_
        refine Ops.u (Dtu.mv (lk rfl)) rfl ?_
        refine Ops.gn rfl rfl rfl rfl rfl ?_
        refine Ops.gn rfl rfl rfl rfl rfl ?_
        refine Ops.gn rfl rfl rfl rfl rfl ?_
        refine Ops.u (Dtu.pickT (lk rfl) (lk rfl)) rfl ?_
        refine Ops.u (Dtu.mv (lk rfl)) rfl ?_
        refine Ops.gn rfl rfl rfl rfl rfl ?_
        refine Ops.gn rfl rfl rfl rfl rfl ?_
        refine Ops.gn rfl rfl rfl rfl rfl ?_
        refine Ops.gn rfl rfl rfl rfl rfl ?_
        refine Ops.gn rfl rfl rfl rfl rfl ?_
        refine Ops.u (Dtu.pickT (lk rfl) (lk rfl)) rfl ?_
        refine Ops.nil ?_
        refine Then.next ?_
        refine Body.condT (lk rfl) ?_
        refine Body.seq ?_
        refine Body.region ?_
        refine Ops.u (Dtu.asg (lk rfl)) rfl ?_
        refine Ops.nil ?_
        refine Then.next ?_
        refine Body.ret ?_
        refine Then.ret ?_
        exact ⟨.inr rfl, _, pk [] rfl, congrArg Value.bool (decide_eq_false fun h => by have := hok.1 h; omega).symm, rfl⟩
      · refine Ops.gu rfl rfl rfl (Dtu.fld fa44_2 (lk rfl)) rfl ?_
        refine Ops.gd rfl rfl rfl (Det.ld Try.isAgg3 (lk rfl) (Rd.ow 0 rfl rfl)) rfl ?_
        refine Ops.gu rfl rfl rfl (Dtu.gtr (lk rfl) (lk rfl)) rfl ?_
        refine Ops.u (Dtu.pickF (lk rfl) (lk rfl)) rfl ?_
        refine Ops.u (Dtu.mv (lk rfl)) rfl ?_
        refine Ops.decP 21 rfl (fun c21 => ?_) (fun c21 => ?_)
        · refine Ops.gn rfl rfl rfl rfl rfl ?_
          refine Ops.gn rfl rfl rfl rfl rfl ?_
          refine Ops.gn rfl rfl rfl rfl rfl ?_
          refine Ops.u (Dtu.pickT (lk rfl) (lk rfl)) rfl ?_
          refine Ops.u (Dtu.mv (lk rfl)) rfl ?_
          refine Ops.gn rfl rfl rfl rfl rfl ?_
          refine Ops.gn rfl rfl rfl rfl rfl ?_
          refine Ops.gn rfl rfl rfl rfl rfl ?_
          refine Ops.gn rfl rfl rfl rfl rfl ?_
          refine Ops.gn rfl rfl rfl rfl rfl ?_
          refine Ops.u (Dtu.pickT (lk rfl) (lk rfl)) rfl ?_
          refine Ops.nil ?_
          refine Then.next ?_
          refine Body.condT (lk rfl) ?_
          refine Body.seq ?_
          refine Body.region ?_
          refine Ops.u (Dtu.asg (lk rfl)) rfl ?_
          refine Ops.nil ?_
          refine Then.next ?_
          refine Body.ret ?_
          refine Then.ret ?_
          exact ⟨.inr rfl, _, pk [] rfl, congrArg Value.bool (decide_eq_false fun h => by have := hok.1 h; omega).symm, rfl⟩
        · refine Ops.gu rfl rfl rfl (Dtu.fld fa44_1 (lk rfl)) rfl ?_
          refine Ops.gd rfl rfl rfl (Det.ld Try.isAgg3 (lk rfl) (Rd.ow 0 rfl rfl)) rfl ?_
          refine Ops.gu rfl rfl rfl (Dtu.lss (lk rfl) (lk rfl)) rfl ?_
          refine Ops.u (Dtu.pickF (lk rfl) (lk rfl)) rfl ?_
          refine Ops.u (Dtu.mv (lk rfl)) rfl ?_
          refine Ops.decP 26 rfl (fun c26 => ?_) (fun c26 => ?_)
          · refine Ops.gn rfl rfl rfl rfl rfl ?_
            refine Ops.gn rfl rfl rfl rfl rfl ?_
            refine Ops.gn rfl rfl rfl rfl rfl ?_
            refine Ops.gn rfl rfl rfl rfl rfl ?_
            refine Ops.gn rfl rfl rfl rfl rfl ?_
            refine Ops.u (Dtu.pickT (lk rfl) (lk rfl)) rfl ?_
            refine Ops.nil ?_
            refine Then.next ?_
            refine Body.condT (lk rfl) ?_
            refine Body.seq ?_
            refine Body.region ?_
            refine Ops.u (Dtu.asg (lk rfl)) rfl ?_
            refine Ops.nil ?_
            refine Then.next ?_
            refine Body.ret ?_
            refine Then.ret ?_
            exact ⟨.inr rfl, _, pk [] rfl, congrArg Value.bool (decide_eq_false fun h => by have := hok.1 h; omega).symm, rfl⟩
          · refine Ops.gu rfl rfl rfl (Dtu.fld fa44_1 (lk rfl)) rfl ?_
            refine Ops.gd rfl rfl rfl (Det.ld Try.isAgg3 (lk rfl) (Rd.ow 0 rfl rfl)) rfl ?_
            refine Ops.gu rfl rfl rfl (Dtu.fld fa44_2 (lk rfl)) rfl ?_
            refine Ops.gd rfl rfl rfl (Det.ld Try.isAgg3 (lk rfl) (Rd.ow 0 rfl rfl)) rfl ?_
            refine Ops.gu rfl rfl rfl (Dtu.geq (lk rfl) (lk rfl)) rfl ?_
            refine Ops.u (Dtu.pickF (lk rfl) (lk rfl)) rfl ?_
            refine Ops.nil ?_
            refine Then.next ?_
            refine Body.condP (lk rfl) (fun c32 => ?_) (fun c32 => ?_)
            · refine Body.seq ?_
              refine Body.region ?_
              refine Ops.u (Dtu.asg (lk rfl)) rfl ?_
              refine Ops.nil ?_
              refine Then.next ?_
              refine Body.ret ?_
              refine Then.ret ?_
              exact ⟨.inr rfl, _, pk [] rfl, congrArg Value.bool (decide_eq_false fun h => by have := hok.1 h; omega).symm, rfl⟩
            · refine Body.skip ?_
              refine Then.next ?_
              refine Body.seq ?_
              refine Body.seq ?_
              refine Body.region ?_
              refine Ops.u (Dtu.fld fa44_3 (lk rfl)) rfl ?_
              refine Ops.d (Det.ld Try.isAgg23 (lk rfl) (Rd.ow 0 rfl rfl)) rfl ?_
              refine Ops.u (Dtu.lenS Try.underlying23 (Sl.up hd) (lk rfl)) rfl ?_
              refine Ops.u (Dtu.eql (lk rfl) (lk rfl)) rfl ?_
              refine Ops.nil ?_
              refine Then.next ?_
              refine Body.condP (lk rfl) (fun c36 => ?_) (fun c36 => ?_)
              · refine Body.seq ?_
                refine Body.region ?_
                refine Ops.u (Dtu.asg (lk rfl)) rfl ?_
                refine Ops.nil ?_
                refine Then.next ?_
                refine Body.ret ?_
                refine Then.ret ?_
                exact ⟨.inr rfl, _, pk [] rfl, congrArg Value.bool (decide_eq_true (hok.2 (by omega))).symm, rfl⟩
              · refine Body.skip ?_
                refine Then.next ?_
                refine Body.seq ?_
                refine Body.region ?_
                refine Ops.u (Dtu.fld fa44_3 (lk rfl)) rfl ?_
                refine Ops.d (Det.ld Try.isAgg23 (lk rfl) (Rd.ow 0 rfl rfl)) rfl ?_
                refine Ops.u (Dtu.lenS Try.underlying23 (Sl.up hd) (lk rfl)) rfl ?_
                refine Ops.u (Dtu.lss (lk rfl) (lk rfl)) rfl ?_
                refine Ops.u (Dtu.mv (lk rfl)) rfl ?_
                refine Ops.decP 41 rfl (fun c41 => ?_) (fun c41 => ?_)
                · refine Ops.gu rfl rfl rfl (Dtu.fld fa44_1 (lk rfl)) rfl ?_
                  refine Ops.gd rfl rfl rfl (Det.ld Try.isAgg3 (lk rfl) (Rd.ow 0 rfl rfl)) rfl ?_
                  refine Ops.gu rfl rfl rfl (Dtu.fld fa44_2 (lk rfl)) rfl ?_
                  refine Ops.gd rfl rfl rfl (Det.ld Try.isAgg3 (lk rfl) (Rd.ow 0 rfl rfl)) rfl ?_
                  refine Ops.gu rfl rfl rfl (Dtu.sub (lk rfl) (lk rfl) (w64 (by omega) (by omega))) rfl ?_
                  refine Ops.gu rfl rfl rfl (Dtu.eql (lk rfl) (lk rfl)) rfl ?_
                  refine Ops.u (Dtu.pickT (lk rfl) (lk rfl)) rfl ?_
                  refine Ops.u (Dtu.mv (lk rfl)) rfl ?_
                  refine Ops.decP 49 rfl (fun c49 => ?_) (fun c49 => ?_)
                  · refine Ops.gu rfl rfl rfl (Dtu.fld fa44_3 (lk rfl)) rfl ?_
                    refine Ops.gd rfl rfl rfl (Det.ld Try.isAgg23 (lk rfl) (Rd.ow 0 rfl rfl)) rfl ?_
                    refine Ops.gu rfl rfl rfl (Dtu.lenS Try.underlying23 (Sl.up hd) (lk rfl)) rfl ?_
                    refine Ops.gu rfl rfl rfl (Dtu.gtr (lk rfl) (lk rfl)) rfl ?_
                    refine Ops.gu rfl rfl rfl (Dtu.mv (lk rfl)) rfl ?_
                    refine Ops.decP 54 rfl (fun c54 => ?_) (fun c54 => ?_)
                    · refine Ops.gn rfl rfl rfl rfl rfl ?_
                      refine Ops.gn rfl rfl rfl rfl rfl ?_
                      refine Ops.gn rfl rfl rfl rfl rfl ?_
                      refine Ops.gu rfl rfl rfl (Dtu.pickT (lk rfl) (lk rfl)) rfl ?_
                      refine Ops.u (Dtu.pickT (lk rfl) (lk rfl)) rfl ?_
                      refine Ops.u (Dtu.asg (lk rfl)) rfl ?_
                      refine Ops.nil ?_
                      refine Then.next ?_
                      refine Body.ret ?_
                      exact ⟨.inr rfl, _, pk [] rfl, congrArg Value.bool (decide_eq_true (hok.2 (by omega))).symm, rfl⟩
                    · refine Ops.gu rfl rfl rfl (Dtu.fld fa44_2 (lk rfl)) rfl ?_
                      refine Ops.gd rfl rfl rfl (Det.ld Try.isAgg3 (lk rfl) (Rd.ow 0 rfl rfl)) rfl ?_
                      refine Ops.gu rfl rfl rfl (Dtu.eql (lk rfl) (lk rfl)) rfl ?_
                      refine Ops.gu rfl rfl rfl (Dtu.pickF (lk rfl) (lk rfl)) rfl ?_
                      refine Ops.u (Dtu.pickT (lk rfl) (lk rfl)) rfl ?_
                      refine Ops.u (Dtu.asg (lk rfl)) rfl ?_
                      refine Ops.nil ?_
                      refine Then.next ?_
                      refine Body.ret ?_
                      exact ⟨.inr rfl, _, pk [] rfl, congrArg Value.bool (by rw [decide_eq_decide, hok]; omega), rfl⟩
                  · refine Ops.gn rfl rfl rfl rfl rfl ?_
                    refine Ops.gn rfl rfl rfl rfl rfl ?_
                    refine Ops.gn rfl rfl rfl rfl rfl ?_
                    refine Ops.gn rfl rfl rfl rfl rfl ?_
                    refine Ops.gn rfl rfl rfl rfl rfl ?_
                    refine Ops.gn rfl rfl rfl rfl rfl ?_
                    refine Ops.gn rfl rfl rfl rfl rfl ?_
                    refine Ops.gn rfl rfl rfl rfl rfl ?_
                    refine Ops.gn rfl rfl rfl rfl rfl ?_
                    refine Ops.u (Dtu.pickF (lk rfl) (lk rfl)) rfl ?_
                    refine Ops.u (Dtu.asg (lk rfl)) rfl ?_
                    refine Ops.nil ?_
                    refine Then.next ?_
                    refine Body.ret ?_
                    exact ⟨.inr rfl, _, pk [] rfl, congrArg Value.bool (decide_eq_false fun h => by have := hok.1 h; omega).symm, rfl⟩
                · refine Ops.gn rfl rfl rfl rfl rfl ?_
                  refine Ops.gn rfl rfl rfl rfl rfl ?_
                  refine Ops.gn rfl rfl rfl rfl rfl ?_
                  refine Ops.gn rfl rfl rfl rfl rfl ?_
                  refine Ops.gn rfl rfl rfl rfl rfl ?_
                  refine Ops.gn rfl rfl rfl rfl rfl ?_
                  refine Ops.u (Dtu.pickF (lk rfl) (lk rfl)) rfl ?_
                  refine Ops.u (Dtu.mv (lk rfl)) rfl ?_
                  refine Ops.gn rfl rfl rfl rfl rfl ?_
                  refine Ops.gn rfl rfl rfl rfl rfl ?_
                  refine Ops.gn rfl rfl rfl rfl rfl ?_
                  refine Ops.gn rfl rfl rfl rfl rfl ?_
                  refine Ops.gn rfl rfl rfl rfl rfl ?_
                  refine Ops.gn rfl rfl rfl rfl rfl ?_
                  refine Ops.gn rfl rfl rfl rfl rfl ?_
                  refine Ops.gn rfl rfl rfl rfl rfl ?_
                  refine Ops.gn rfl rfl rfl rfl rfl ?_
                  refine Ops.u (Dtu.pickF (lk rfl) (lk rfl)) rfl ?_
                  refine Ops.u (Dtu.asg (lk rfl)) rfl ?_
                  refine Ops.nil ?_
                  refine Then.next ?_
                  refine Body.ret ?_
                  exact ⟨.inr rfl, _, pk [] rfl, congrArg Value.bool (decide_eq_false fun h => by have := hok.1 h; omega).symm, rfl⟩
theorem rjoin_ok (E : Env) (l : List Prt) (s : Value) (hl : Sl E [] 4 s l.length (l.flatMap Prt.enc)) (hd : ∀ p ∈ l, p.At E) (hj : JoinOk l) (h0 : 0 < l.length) : Does Try.prog 48 #[s] E ([]) fun r H' => ∃ v, r = .tuple #[v, .int .i64 0] ∧ H' = [osl 5 1 v (l.flatMap Prt.d).length (u8s (l.flatMap Prt.d))] := by
  refine Does.pure hl.len fun hlen => ?_
  obtain ⟨hll, hlm⟩ := hlen
  have h64 : l.length ≤ 64 := by have h1 := hj 0 h0; have h2 := h1.1.c1; have h3 := h1.2.2.1; omega
  have hb : ∀ k, k ≤ l.length → ((l.take k).flatMap Prt.d).length ≤ 480 * k := fun k => by
    induction k with
    | zero => intro _; simp
    | succ k ih =>
      intro hk
      rw [List.take_succ_eq_append_getElem (by omega), List.flatMap_append, List.length_append]
      have h1 := ih (by omega)
      have h2 := (hj k (by omega)).1.d0
      rw [getElem!_pos l k (by omega)] at h2
      simp only [List.flatMap_cons, List.flatMap_nil, List.append_nil]
      omega
  refine Does.go _ _ Try.func48 rfl Try.ntmps48 rfl rfl ?_
  skip
  refine Body.seq ?_
  refine Body.region ?_
  refine Ops.u (Dtu.asg (lk rfl)) rfl ?_
  refine Ops.u (Dtu.asg (lk rfl)) rfl ?_
  refine Ops.nil ?_
  refine Then.next ?_
  refine Body.seq ?_
  refine Body.seq ?_
  refine Body.region ?_
  refine Ops.u (Dtu.mv (lk rfl)) rfl ?_
  refine Ops.u (Dtu.lenS Try.underlying46 (Sl.up hl) (lk rfl)) rfl ?_
  refine Ops.u (Dtu.eql (lk rfl) (lk rfl)) rfl ?_
  refine Ops.nil ?_
  refine Then.next ?_
  refine Body.condP (lk rfl) (fun hy => absurd hy (by first | omega | assumption | decide)) (fun _ => ?_)
  refine Body.skip ?_
  refine Then.next ?_
  refine Body.seq ?_
  refine Body.region ?_
  refine Ops.u (Dtu.asg (lk rfl)) rfl ?_
  refine Ops.nil ?_
  refine Then.next ?_
  refine Body.seq ?_
  refine Body.seq ?_
  refine Body.region ?_
  refine Ops.u (Dtu.asg (lk rfl)) rfl ?_
  refine Ops.nil ?_
  refine Then.next ?_
  refine Body.block ?_
  refine Body.addNil 5 1 none ?_
  refine Body.loopL (γ := Nat × Value) [0, 2, 3] rfl (fun g => [(5, .int .i64 (g.1 : Nat)), (4, g.2)]) (fun g => [(0, osl 5 1 g.2 ((l.take g.1).flatMap Prt.d).length (u8s ((l.take g.1).flatMap Prt.d)))]) (fun _ => rfl) (fun _ _ => rfl) (fun g => g.1 ≤ l.length) (fun g => l.length - g.1) ((0, .slice none 0 0)) (Nat.zero_le _) ⟨rfl, rfl, trivial⟩ rfl ?_
  rintro ⟨k, v⟩ u hk
  dsimp only at hk ⊢
  by_cases hlt : k < l.length
  · have hdk : l[k]!.At E := hd l[k]! (by rw [getElem!_pos l k hlt]; exact List.getElem_mem _)
    have hds : Sl E [] 1 l[k]!.s l[k]!.d.length (l[k]!.d.map (.int .u8)) := hdk
    have hbk := hb k hk
    obtain ⟨h1, h2, h3, h4⟩ := hj k hlt
    have hk9 := h1.d0
    have h5 : ¬ ¬ l[k]!.Ok := fun h => h h1
    have hex : (l.take (k + 1)).flatMap Prt.d = (l.take k).flatMap Prt.d ++ l[k]!.d := by
      rw [List.take_succ_eq_append_getElem hlt, List.flatMap_append, getElem!_pos l k hlt]; simp
    refine Body.seq ?_
    refine Body.seq ?_
    refine Body.region ?_
    refine Ops.u (Dtu.mv (lk rfl)) rfl ?_
    refine Ops.u (Dtu.mv (lk rfl)) rfl ?_
    refine Ops.u (Dtu.lenS Try.underlying46 (Sl.up hl) (lk rfl)) rfl ?_
    refine Ops.u (Dtu.lss (lk rfl) (lk rfl)) rfl ?_
    refine Ops.nil ?_
    refine Then.next ?_
    refine Body.condP (lk rfl) (fun _ => ?_) (fun hn => absurd (by first | omega | assumption | decide) hn)
    refine Body.skip ?_
    refine Then.next ?_
    refine Body.seq ?_
    refine Body.block ?_
    refine Body.seq ?_
    refine Body.seq ?_
    refine Body.draw mixed ?_
    refine AB.u 0 rfl (by decide +kernel) (Dtu.mv (lk rfl)) rfl ?_
    refine AB.u 1 rfl (by decide +kernel) (Dtu.mv (lk rfl)) rfl ?_
    refine AB.u 2 rfl (by decide +kernel) (Dtu.ix (i := (k)) Try.underlying46 Try.sizeOf44 (Sl.up hl) (lk rfl) (lk rfl) (by omega) (by omega)) rfl ?_
    refine AB.d 3 rfl (by decide +kernel) rfl (Det.lda Try.isAgg44 Try.sizeOf44 (lk rfl) (Rds.sl (Sl.up hl) (gf (sz := 4) (fun _ => rfl) (by omega))) rfl) rfl ?_
    refine AB.s 4 rfl (by decide +kernel) (by decide +kernel) (Stp.call rfl Try.call45 (lks rfl) (fun E' le hat => rright_ok E' l[k]! (Prt.At.mono hdk le)) ?_) rfl
    rintro _ _ ⟨rfl, rfl⟩
    refine AB.u 5 rfl (by decide +kernel) (Dtu.notP (lk rfl)) rfl ?_
    refine AB.u 6 rfl (by decide +kernel) (Dtu.mv (lk rfl)) rfl ?_
    refine AB.decP 21 rfl (fun hy => absurd hy (by first | omega | assumption | decide)) (fun _ => ?_)
    refine AB.gu 7 rfl (by decide +kernel) rfl rfl rfl (Dtu.mv (lk rfl)) rfl ?_
    refine AB.gu 8 rfl (by decide +kernel) rfl rfl rfl (Dtu.mv (lk rfl)) rfl ?_
    refine AB.gu 9 rfl (by decide +kernel) rfl rfl rfl (Dtu.ix (i := (k)) Try.underlying46 Try.sizeOf44 (Sl.up hl) (lk rfl) (lk rfl) (by omega) (by omega)) rfl ?_
    refine AB.gu 10 rfl (by decide +kernel) rfl rfl rfl (Dtu.fld fa44_0 (lk rfl)) rfl ?_
    refine AB.gd 11 rfl (by decide +kernel) rfl rfl rfl rfl (Det.ld Try.isAgg22 (lk rfl) (Rd.sl2 (Sl.up hl) (gfe (sz := 4) (fun _ => rfl) (by omega) rfl))) rfl ?_
    refine AB.gu 12 rfl (by decide +kernel) rfl rfl rfl (Dtu.mv (lk rfl)) rfl ?_
    refine AB.gu 13 rfl (by decide +kernel) rfl rfl rfl (Dtu.ix (i := 0) Try.underlying46 Try.sizeOf44 (Sl.up hl) (lk rfl) (lk rfl) (by omega) (by omega)) rfl ?_
    refine AB.gu 14 rfl (by decide +kernel) rfl rfl rfl (Dtu.fld fa44_0 (lk rfl)) rfl ?_
    refine AB.gd 15 rfl (by decide +kernel) rfl rfl rfl rfl (Det.ld Try.isAgg22 (lk rfl) (Rd.sl2 (Sl.up hl) (gfe (sz := 4) (fun _ => rfl) (by omega) rfl))) rfl ?_
    refine AB.gu 16 rfl (by decide +kernel) rfl rfl rfl (Dtu.neq (lk rfl) (lk rfl)) rfl ?_
    refine AB.u 17 rfl (by decide +kernel) (Dtu.pickF (lk rfl) (lk rfl)) rfl ?_
    refine AB.u 18 rfl (by decide +kernel) (Dtu.mv (lk rfl)) rfl ?_
    refine AB.decP 33 rfl (fun hy => absurd hy (by first | omega | assumption | decide)) (fun _ => ?_)
    refine AB.gu 19 rfl (by decide +kernel) rfl rfl rfl (Dtu.mv (lk rfl)) rfl ?_
    refine AB.gu 20 rfl (by decide +kernel) rfl rfl rfl (Dtu.mv (lk rfl)) rfl ?_
    refine AB.gu 21 rfl (by decide +kernel) rfl rfl rfl (Dtu.ix (i := (k)) Try.underlying46 Try.sizeOf44 (Sl.up hl) (lk rfl) (lk rfl) (by omega) (by omega)) rfl ?_
    refine AB.gu 22 rfl (by decide +kernel) rfl rfl rfl (Dtu.fld fa44_2 (lk rfl)) rfl ?_
    refine AB.gd 23 rfl (by decide +kernel) rfl rfl rfl rfl (Det.ld Try.isAgg3 (lk rfl) (Rd.sl2 (Sl.up hl) (gfe (sz := 4) (fun _ => rfl) (by omega) rfl))) rfl ?_
    refine AB.gu 24 rfl (by decide +kernel) rfl rfl rfl (Dtu.mv (lk rfl)) rfl ?_
    refine AB.gu 25 rfl (by decide +kernel) rfl rfl rfl (Dtu.lenS Try.underlying46 (Sl.up hl) (lk rfl)) rfl ?_
    refine AB.gu 26 rfl (by decide +kernel) rfl rfl rfl (Dtu.neq (lk rfl) (lk rfl)) rfl ?_
    refine AB.u 27 rfl (by decide +kernel) (Dtu.pickF (lk rfl) (lk rfl)) rfl ?_
    refine AB.u 28 rfl (by decide +kernel) (Dtu.mv (lk rfl)) rfl ?_
    refine AB.decP 43 rfl (fun hy => absurd hy (by first | omega | assumption | decide)) (fun _ => ?_)
    refine AB.gu 29 rfl (by decide +kernel) rfl rfl rfl (Dtu.mv (lk rfl)) rfl ?_
    refine AB.gu 30 rfl (by decide +kernel) rfl rfl rfl (Dtu.mv (lk rfl)) rfl ?_
    refine AB.gu 31 rfl (by decide +kernel) rfl rfl rfl (Dtu.ix (i := (k)) Try.underlying46 Try.sizeOf44 (Sl.up hl) (lk rfl) (lk rfl) (by omega) (by omega)) rfl ?_
    refine AB.gu 32 rfl (by decide +kernel) rfl rfl rfl (Dtu.fld fa44_1 (lk rfl)) rfl ?_
    refine AB.gd 33 rfl (by decide +kernel) rfl rfl rfl rfl (Det.ld Try.isAgg3 (lk rfl) (Rd.sl2 (Sl.up hl) (gfe (sz := 4) (fun _ => rfl) (by omega) rfl))) rfl ?_
    refine AB.gu 34 rfl (by decide +kernel) rfl rfl rfl (Dtu.mv (lk rfl)) rfl ?_
    refine AB.gu 35 rfl (by decide +kernel) rfl rfl rfl (Dtu.neq (lk rfl) (lk rfl)) rfl ?_
    refine AB.u 36 rfl (by decide +kernel) (Dtu.pickF (lk rfl) (lk rfl)) rfl ?_
    refine AB.done (by decide +kernel) ?_
    refine Then.next ?_
    refine Body.condP (lk rfl) (fun hy => absurd hy (by first | omega | assumption | decide)) (fun _ => ?_)
    refine Body.skip ?_
    refine Then.next ?_
    refine Body.region ?_
    refine Ops.u (Dtu.mv (lk rfl)) rfl ?_
    refine Ops.u (Dtu.mv (lk rfl)) rfl ?_
    refine Ops.u (Dtu.mv (lk rfl)) rfl ?_
    refine Ops.u (Dtu.ix (i := (k)) Try.underlying46 Try.sizeOf44 (Sl.up hl) (lk rfl) (lk rfl) (by omega) (by omega)) rfl ?_
    refine Ops.u (Dtu.fld fa44_3 (lk rfl)) rfl ?_
    refine Ops.d (Det.ld Try.isAgg23 (lk rfl) (Rd.sl2 (Sl.up hl) (gfe (sz := 4) (fun _ => rfl) (by omega) rfl))) rfl ?_
    refine Ops.s (Stp.append 0 Try.underlying23 ty5 rfl rfl (lk rfl) (lk rfl) (Sl.up hds) (by first | rfl | exact all_map (fun _ => rfl) _ | exact all_flat (fun _ => rfl) _ | exact all_one (by assumption)) (by omega) (by omega) (fun v58 => ?_)) rfl
    refine Ops.u (Dtu.asg (lk rfl)) rfl ?_
    refine Ops.nil ?_
    refine Blk.norm ?_
    refine Then.next ?_
    refine Body.region ?_
    refine Ops.u (Dtu.mv (lk rfl)) rfl ?_
    refine Ops.u (Dtu.add (lk rfl) (lk rfl) (w64 (by omega) (by omega))) rfl ?_
    refine Ops.u (Dtu.asg (lk rfl)) rfl ?_
    refine Ops.nil ?_
    refine Round.goL [0] (k + 1, v58) rfl ⟨rfl, rfl, trivial⟩ rfl (by (try dsimp only); rw [hex, List.length_append, u8s, u8s, List.map_append]; try rfl) (by dsimp only; omega) (by dsimp only; omega)
  · have hk' : k = l.length := by omega
    subst hk'
    rw [List.take_length]
    refine Body.seq ?_
    refine Body.seq ?_
    refine Body.region ?_
    refine Ops.u (Dtu.mv (lk rfl)) rfl ?_
    refine Ops.u (Dtu.mv (lk rfl)) rfl ?_
    refine Ops.u (Dtu.lenS Try.underlying46 (Sl.up hl) (lk rfl)) rfl ?_
    refine Ops.u (Dtu.lss (lk rfl) (lk rfl)) rfl ?_
    refine Ops.nil ?_
    refine Then.next ?_
    refine Body.condP (lk rfl) (fun hy => absurd hy (by first | omega | assumption | decide)) (fun _ => ?_)
    refine Body.exit ?_
    refine Then.exit ?_
    refine Round.exit ?_
    refine Blk.here ?_
    refine Then.next ?_
    refine Body.seq ?_
    refine Body.region ?_
    refine Ops.u (Dtu.mv (lk rfl)) rfl ?_
    refine Ops.u (Dtu.asg (lk rfl)) rfl ?_
    refine Ops.u (Dtu.asg (lk rfl)) rfl ?_
    refine Ops.nil ?_
    refine Then.next ?_
    refine Body.ret ?_
    exact ⟨.inr rfl, _, pk [0] rfl, ⟨_, rfl, rfl⟩⟩
/-- the parts of a frame, in order -/
def partsAt (L : List Prt) (id : Nat) (k : Nat) : List Prt := L.filter fun p => decide (p.id = id ∧ p.ix = (k : Int))
def partsS (L : List Prt) (id : Nat) : List Prt := (List.range 64).flatMap fun k => partsAt L id k
theorem partsAt_len (L : List Prt) (id k : Nat) : (partsAt L id k).length ≤ L.length := List.length_filter_le _ _
theorem partsTo_len (L : List Prt) (id : Nat) : ∀ k, ((List.range k).flatMap fun k => partsAt L id k).length ≤ k * L.length
  | 0 => by simp
  | k + 1 => by
    rw [List.range_succ, List.flatMap_append, List.length_append]
    have h1 := partsTo_len L id k
    have h2 := partsAt_len L id k
    simp only [List.flatMap_cons, List.flatMap_nil, List.append_nil]
    rw [Nat.succ_mul]; omega
theorem filter_step {α : Type} (p : α → Bool) (L : List α) {i : Nat} (hi : i < L.length) : (L.take (i + 1)).filter p = (L.take i).filter p ++ (if p L[i] = true then [L[i]] else []) := by
  rw [List.take_succ_eq_append_getElem hi, List.filter_append]
  congr 1
  cases h : p L[i] <;> simp [h]
theorem rparts_r (E : Env) (b fl id : Nat) (s : Value) (L : List Prt) (hA : At (own b [.int .u64 (fl : Nat), s] 48) E) (hs : Sl E [] 4 s L.length (L.flatMap Prt.enc)) (hL : ∀ p ∈ L, IsSl p.s) (hn : L.length ≤ 1000) : Does Try.prog 46 #[.pointer (some ⟨b, 0, none⟩), .int .u64 (id : Nat)] E ([]) fun r H' => H' = [osl 44 4 r (partsS L id).length ((partsS L id).flatMap Prt.enc)] := by
  refine Does.go _ _ Try.func46 rfl Try.ntmps46 rfl rfl ?_
  skip
  refine Body.seq ?_
  refine Body.region ?_
  refine Ops.u (Dtu.asg (lk rfl)) rfl ?_
  refine Ops.nil ?_
  refine Then.next ?_
  refine Body.seq ?_
  refine Body.region ?_
  refine Ops.u (Dtu.asg (lk rfl)) rfl ?_
  refine Ops.nil ?_
  refine Then.next ?_
  refine Body.seq ?_
  refine Body.seq ?_
  refine Body.region ?_
  refine Ops.u (Dtu.asg (lk rfl)) rfl ?_
  refine Ops.nil ?_
  refine Then.next ?_
  refine Body.block ?_
  refine Body.addNil 44 4 none ?_
  refine Body.loopL (γ := Nat × Value) [0, 1, 4] rfl (fun g => [(6, .int .i64 (g.1 : Nat)), (5, g.2)]) (fun g => [(0, osl 44 4 g.2 ((List.range g.1).flatMap fun k => partsAt L id k).length (((List.range g.1).flatMap fun k => partsAt L id k).flatMap Prt.enc))]) (fun _ => rfl) (fun _ _ => rfl) (fun g => g.1 ≤ 64) (fun g => 64 - g.1) ((0, .slice none 0 0)) (Nat.zero_le _) ⟨rfl, rfl, trivial⟩ rfl ?_
  rintro ⟨k, v⟩ u hk
  dsimp only at hk ⊢
  have hpl := partsTo_len L id k
  have hpk : k * L.length ≤ 64000 := Nat.le_trans (Nat.mul_le_mul hk hn) (by omega)
  by_cases hlt : k < 64
  · generalize hP : ((List.range k).flatMap fun k => partsAt L id k) = P at *
    refine Body.seq ?_
    refine Body.seq ?_
    refine Body.region ?_
    refine Ops.u (Dtu.mv (lk rfl)) rfl ?_
    refine Ops.u (Dtu.lss (lk rfl) (lk rfl)) rfl ?_
    refine Ops.nil ?_
    refine Then.next ?_
    refine Body.condP (lk rfl) (fun _ => ?_) (fun hn => absurd (by first | omega | assumption | decide) hn)
    refine Body.skip ?_
    refine Then.next ?_
    refine Body.seq ?_
    refine Body.block ?_
    refine Body.seq ?_
    refine Body.region ?_
    refine Ops.u (Dtu.asg (lk rfl)) rfl ?_
    refine Ops.nil ?_
    refine Then.next ?_
    refine Body.block ?_
    refine Body.conseq (H' := [osl 44 4 v (P ++ partsAt (L.take 0) id k).length ((P ++ partsAt (L.take 0) id k).flatMap Prt.enc)]) (fun w s => by rw [show P ++ partsAt (L.take 0) id k = P from List.append_nil P]; exact s) ?_
    refine Body.loopL (γ := Nat × Value) [0, 1, 4, 6] rfl (fun g => [(7, .int .i64 (g.1 : Nat)), (5, g.2)]) (fun g => [(0, osl 44 4 g.2 (P ++ partsAt (L.take g.1) id k).length ((P ++ partsAt (L.take g.1) id k).flatMap Prt.enc))]) (fun _ => rfl) (fun _ _ => rfl) (fun g => g.1 ≤ L.length) (fun g => L.length - g.1) ((0, v)) (Nat.zero_le _) ⟨rfl, rfl, trivial⟩ rfl ?_
    rintro ⟨i, v⟩ u3 hi
    dsimp only at hi ⊢
    have hql := partsAt_len (L.take i) id k
    rw [List.length_take] at hql
    by_cases hli : i < L.length
    · have hst := filter_step (fun p : Prt => decide (p.id = id ∧ p.ix = (k : Int))) L hli
      rw [← getElem!_pos L i hli] at hst
      have hlen : (P ++ partsAt (L.take i) id k).length ≤ 70000 := by rw [List.length_append]; omega
      by_cases hc : L[i]!.id = id ∧ L[i]!.ix = (k : Int)
      · rw [if_pos (decide_eq_true hc)] at hst
        have hst2 : P ++ partsAt (L.take (i + 1)) id k = (P ++ partsAt (L.take i) id k) ++ [L[i]!] := by rw [List.append_assoc]; exact congrArg _ hst
        have hc1 := hc.1
        have hc2 := hc.2
        obtain ⟨qa, qm, qc, hqs⟩ := hL L[i]! (by rw [getElem!_pos L i hli]; exact List.getElem_mem _)
        have hone := Prt.one hqs
        generalize P ++ partsAt (L.take i) id k = Q at *
        refine Body.seq ?_
        refine Body.seq ?_
        refine Body.region ?_
        refine Ops.u (Dtu.mv (lk rfl)) rfl ?_
        refine Ops.u (Dtu.mv (lk rfl)) rfl ?_
        refine Ops.u (Dtu.nilck (lk rfl)) rfl ?_
        refine Ops.u (Dtu.fld fa48_1 (lk rfl)) rfl ?_
        refine Ops.d (Det.ld Try.isAgg46 (lk rfl) (Rd.env (own_at hA rfl))) rfl ?_
        refine Ops.u (Dtu.lenS Try.underlying46 (Sl.up hs) (lk rfl)) rfl ?_
        refine Ops.u (Dtu.lss (lk rfl) (lk rfl)) rfl ?_
        refine Ops.nil ?_
        refine Then.next ?_
        refine Body.condP (lk rfl) (fun _ => ?_) (fun hn => absurd (by first | omega | assumption | decide) hn)
        refine Body.skip ?_
        refine Then.next ?_
        refine Body.seq ?_
        refine Body.block ?_
        refine Body.seq ?_
        refine Body.region ?_
        refine Ops.u (Dtu.mv (lk rfl)) rfl ?_
        refine Ops.u (Dtu.nilck (lk rfl)) rfl ?_
        refine Ops.u (Dtu.fld fa48_1 (lk rfl)) rfl ?_
        refine Ops.d (Det.ld Try.isAgg46 (lk rfl) (Rd.env (own_at hA rfl))) rfl ?_
        refine Ops.u (Dtu.mv (lk rfl)) rfl ?_
        refine Ops.u (Dtu.ix (i := (i)) Try.underlying46 Try.sizeOf44 (Sl.up hs) (lk rfl) (lk rfl) (by omega) (by omega)) rfl ?_
        refine Ops.u (Dtu.fld fa44_0 (lk rfl)) rfl ?_
        refine Ops.d (Det.ld Try.isAgg22 (lk rfl) (Rd.sl2 (Sl.up hs) (gfe (sz := 4) (fun _ => rfl) (by omega) rfl))) rfl ?_
        refine Ops.u (Dtu.mv (lk rfl)) rfl ?_
        refine Ops.u (Dtu.eql (lk rfl) (lk rfl)) rfl ?_
        refine Ops.u (Dtu.mv (lk rfl)) rfl ?_
        refine Ops.decP 31 rfl (fun _ => ?_) (fun hn => absurd (by first | omega | assumption | decide) hn)
        refine Ops.gu rfl rfl rfl (Dtu.mv (lk rfl)) rfl ?_
        refine Ops.gu rfl rfl rfl (Dtu.nilck (lk rfl)) rfl ?_
        refine Ops.gu rfl rfl rfl (Dtu.fld fa48_1 (lk rfl)) rfl ?_
        refine Ops.gd rfl rfl rfl (Det.ld Try.isAgg46 (lk rfl) (Rd.env (own_at hA rfl))) rfl ?_
        refine Ops.gu rfl rfl rfl (Dtu.mv (lk rfl)) rfl ?_
        refine Ops.gu rfl rfl rfl (Dtu.ix (i := (i)) Try.underlying46 Try.sizeOf44 (Sl.up hs) (lk rfl) (lk rfl) (by omega) (by omega)) rfl ?_
        refine Ops.gu rfl rfl rfl (Dtu.fld fa44_1 (lk rfl)) rfl ?_
        refine Ops.gd rfl rfl rfl (Det.ld Try.isAgg3 (lk rfl) (Rd.sl2 (Sl.up hs) (gfe (sz := 4) (fun _ => rfl) (by omega) rfl))) rfl ?_
        refine Ops.gu rfl rfl rfl (Dtu.mv (lk rfl)) rfl ?_
        refine Ops.gu rfl rfl rfl (Dtu.eql (lk rfl) (lk rfl)) rfl ?_
        refine Ops.u (Dtu.pickT (lk rfl) (lk rfl)) rfl ?_
        refine Ops.nil ?_
        refine Then.next ?_
        refine Body.condP (lk rfl) (fun _ => ?_) (fun hn => absurd (by first | omega | assumption | decide) hn)
        refine Body.region ?_
        refine Ops.u (Dtu.mv (lk rfl)) rfl ?_
        refine Ops.u (Dtu.mv (lk rfl)) rfl ?_
        refine Ops.u (Dtu.nilck (lk rfl)) rfl ?_
        refine Ops.u (Dtu.fld fa48_1 (lk rfl)) rfl ?_
        refine Ops.d (Det.ld Try.isAgg46 (lk rfl) (Rd.env (own_at hA rfl))) rfl ?_
        refine Ops.u (Dtu.mv (lk rfl)) rfl ?_
        refine Ops.u (Dtu.ix (i := (i)) Try.underlying46 Try.sizeOf44 (Sl.up hs) (lk rfl) (lk rfl) (by omega) (by omega)) rfl ?_
        refine Ops.d (Det.lda Try.isAgg44 Try.sizeOf44 (lk rfl) (Rds.sl (Sl.up hs) (gf (sz := 4) (fun _ => rfl) (by omega))) rfl) rfl ?_
        refine Ops.s (Stp.buildSliceO Try.underlying46 ty44 (by decide) (by decide) (lkp rfl) rfl rfl rfl (by decide) (fun v51 => ?_)) rfl
        refine Ops.s (Stp.append 1 Try.underlying46 ty44 rfl rfl (lk rfl) (lk rfl) (Sl.osl 0 rfl) (by first | rfl | exact all_map (fun _ => rfl) _ | exact all_flat (fun _ => rfl) _ | exact all_one (by assumption)) (by omega) (by omega) (fun v52 => ?_)) rfl
        refine Ops.u (Dtu.asg (lk rfl)) rfl ?_
        refine Ops.nil ?_
        refine Blk.norm ?_
        refine Then.next ?_
        refine Body.region ?_
        refine Ops.u (Dtu.mv (lk rfl)) rfl ?_
        refine Ops.u (Dtu.add (lk rfl) (lk rfl) (w64 (by omega) (by omega))) rfl ?_
        refine Ops.u (Dtu.asg (lk rfl)) rfl ?_
        refine Ops.nil ?_
        refine Round.goL [1] (i + 1, v52) rfl ⟨rfl, rfl, trivial⟩ rfl (by (try dsimp only); rw [hst2, List.length_append, List.flatMap_append]; try rfl) hli (by dsimp only; omega)
      · rw [if_neg (by rw [decide_eq_true_iff]; exact hc), List.append_nil] at hst
        have hst2 : P ++ partsAt (L.take (i + 1)) id k = P ++ partsAt (L.take i) id k := congrArg _ hst
        refine Body.seq ?_
        refine Body.seq ?_
        refine Body.region ?_
        refine Ops.u (Dtu.mv (lk rfl)) rfl ?_
        refine Ops.u (Dtu.mv (lk rfl)) rfl ?_
        refine Ops.u (Dtu.nilck (lk rfl)) rfl ?_
        refine Ops.u (Dtu.fld fa48_1 (lk rfl)) rfl ?_
        refine Ops.d (Det.ld Try.isAgg46 (lk rfl) (Rd.env (own_at hA rfl))) rfl ?_
        refine Ops.u (Dtu.lenS Try.underlying46 (Sl.up hs) (lk rfl)) rfl ?_
        refine Ops.u (Dtu.lss (lk rfl) (lk rfl)) rfl ?_
        refine Ops.nil ?_
        refine Then.next ?_
        refine Body.condP (lk rfl) (fun _ => ?_) (fun hn => absurd (by first | omega | assumption | decide) hn)
        refine Body.skip ?_
        refine Then.next ?_
        refine Body.seq ?_
        refine Body.block ?_
        refine Body.seq ?_
        refine Body.region ?_
        refine Ops.u (Dtu.mv (lk rfl)) rfl ?_
        refine Ops.u (Dtu.nilck (lk rfl)) rfl ?_
        refine Ops.u (Dtu.fld fa48_1 (lk rfl)) rfl ?_
        refine Ops.d (Det.ld Try.isAgg46 (lk rfl) (Rd.env (own_at hA rfl))) rfl ?_
        refine Ops.u (Dtu.mv (lk rfl)) rfl ?_
        refine Ops.u (Dtu.ix (i := (i)) Try.underlying46 Try.sizeOf44 (Sl.up hs) (lk rfl) (lk rfl) (by omega) (by omega)) rfl ?_
        refine Ops.u (Dtu.fld fa44_0 (lk rfl)) rfl ?_
        refine Ops.d (Det.ld Try.isAgg22 (lk rfl) (Rd.sl2 (Sl.up hs) (gfe (sz := 4) (fun _ => rfl) (by omega) rfl))) rfl ?_
        refine Ops.u (Dtu.mv (lk rfl)) rfl ?_
        refine Ops.u (Dtu.eql (lk rfl) (lk rfl)) rfl ?_
        refine Ops.u (Dtu.mv (lk rfl)) rfl ?_
        refine Ops.decP 31 rfl (fun c31 => ?_) (fun c31 => ?_)
        · refine Ops.gu rfl rfl rfl (Dtu.mv (lk rfl)) rfl ?_
          refine Ops.gu rfl rfl rfl (Dtu.nilck (lk rfl)) rfl ?_
          refine Ops.gu rfl rfl rfl (Dtu.fld fa48_1 (lk rfl)) rfl ?_
          refine Ops.gd rfl rfl rfl (Det.ld Try.isAgg46 (lk rfl) (Rd.env (own_at hA rfl))) rfl ?_
          refine Ops.gu rfl rfl rfl (Dtu.mv (lk rfl)) rfl ?_
          refine Ops.gu rfl rfl rfl (Dtu.ix (i := (i)) Try.underlying46 Try.sizeOf44 (Sl.up hs) (lk rfl) (lk rfl) (by omega) (by omega)) rfl ?_
          refine Ops.gu rfl rfl rfl (Dtu.fld fa44_1 (lk rfl)) rfl ?_
          refine Ops.gd rfl rfl rfl (Det.ld Try.isAgg3 (lk rfl) (Rd.sl2 (Sl.up hs) (gfe (sz := 4) (fun _ => rfl) (by omega) rfl))) rfl ?_
          refine Ops.gu rfl rfl rfl (Dtu.mv (lk rfl)) rfl ?_
          refine Ops.gu rfl rfl rfl (Dtu.eql (lk rfl) (lk rfl)) rfl ?_
          refine Ops.u (Dtu.pickT (lk rfl) (lk rfl)) rfl ?_
          refine Ops.nil ?_
          refine Then.next ?_
          refine Body.condP (lk rfl) (fun hy => absurd hy (by first | omega | assumption | decide)) (fun _ => ?_)
          refine Body.skip ?_
          refine Blk.norm ?_
          refine Then.next ?_
          refine Body.region ?_
          refine Ops.u (Dtu.mv (lk rfl)) rfl ?_
          refine Ops.u (Dtu.add (lk rfl) (lk rfl) (w64 (by omega) (by omega))) rfl ?_
          refine Ops.u (Dtu.asg (lk rfl)) rfl ?_
          refine Ops.nil ?_
          refine Round.goL [0] (i + 1, v) rfl ⟨rfl, rfl, trivial⟩ rfl (by (try dsimp only); rw [hst2]) hli (by dsimp only; omega)
        · refine Ops.gn rfl rfl rfl rfl rfl ?_
          refine Ops.gn rfl rfl rfl rfl rfl ?_
          refine Ops.gn rfl rfl rfl rfl rfl ?_
          refine Ops.gn rfl rfl rfl rfl rfl ?_
          refine Ops.gn rfl rfl rfl rfl rfl ?_
          refine Ops.gn rfl rfl rfl rfl rfl ?_
          refine Ops.gn rfl rfl rfl rfl rfl ?_
          refine Ops.gn rfl rfl rfl rfl rfl ?_
          refine Ops.gn rfl rfl rfl rfl rfl ?_
          refine Ops.gn rfl rfl rfl rfl rfl ?_
          refine Ops.u (Dtu.pickF (lk rfl) (lk rfl)) rfl ?_
          refine Ops.nil ?_
          refine Then.next ?_
          refine Body.condF (lk rfl) ?_
          refine Body.skip ?_
          refine Blk.norm ?_
          refine Then.next ?_
          refine Body.region ?_
          refine Ops.u (Dtu.mv (lk rfl)) rfl ?_
          refine Ops.u (Dtu.add (lk rfl) (lk rfl) (w64 (by omega) (by omega))) rfl ?_
          refine Ops.u (Dtu.asg (lk rfl)) rfl ?_
          refine Ops.nil ?_
          refine Round.goL [0] (i + 1, v) rfl ⟨rfl, rfl, trivial⟩ rfl (by (try dsimp only); rw [hst2]) hli (by dsimp only; omega)
    · have hi' : i = L.length := by omega
      have hta : L.take i = L := by rw [hi', List.take_length]
      have hst2 : P ++ partsAt L id k = (List.range (k + 1)).flatMap fun k => partsAt L id k := by rw [List.range_succ, List.flatMap_append, hP]; simp
      rw [hta, hst2]
      refine Body.seq ?_
      refine Body.seq ?_
      refine Body.region ?_
      refine Ops.u (Dtu.mv (lk rfl)) rfl ?_
      refine Ops.u (Dtu.mv (lk rfl)) rfl ?_
      refine Ops.u (Dtu.nilck (lk rfl)) rfl ?_
      refine Ops.u (Dtu.fld fa48_1 (lk rfl)) rfl ?_
      refine Ops.d (Det.ld Try.isAgg46 (lk rfl) (Rd.env (own_at hA rfl))) rfl ?_
      refine Ops.u (Dtu.lenS Try.underlying46 (Sl.up hs) (lk rfl)) rfl ?_
      refine Ops.u (Dtu.lss (lk rfl) (lk rfl)) rfl ?_
      refine Ops.nil ?_
      refine Then.next ?_
      refine Body.condP (lk rfl) (fun hy => absurd hy (by first | omega | assumption | decide)) (fun _ => ?_)
      refine Body.exit ?_
      refine Then.exit ?_
      refine Round.exit ?_
      refine Blk.here ?_
      refine Blk.norm ?_
      refine Then.next ?_
      refine Body.region ?_
      refine Ops.u (Dtu.mv (lk rfl)) rfl ?_
      refine Ops.u (Dtu.add (lk rfl) (lk rfl) (w64 (by omega) (by omega))) rfl ?_
      refine Ops.u (Dtu.asg (lk rfl)) rfl ?_
      refine Ops.nil ?_
      refine Round.goL [0] (k + 1, v) rfl ⟨rfl, rfl, trivial⟩ rfl rfl hlt (by dsimp only; omega)
  · have hk' : k = 64 := by omega
    subst hk'
    refine Body.seq ?_
    refine Body.seq ?_
    refine Body.region ?_
    refine Ops.u (Dtu.mv (lk rfl)) rfl ?_
    refine Ops.u (Dtu.lss (lk rfl) (lk rfl)) rfl ?_
    refine Ops.nil ?_
    refine Then.next ?_
    refine Body.condP (lk rfl) (fun hy => absurd hy (by first | omega | assumption | decide)) (fun _ => ?_)
    refine Body.exit ?_
    refine Then.exit ?_
    refine Round.exit ?_
    refine Blk.here ?_
    refine Then.next ?_
    refine Body.seq ?_
    refine Body.region ?_
    refine Ops.u (Dtu.mv (lk rfl)) rfl ?_
    refine Ops.u (Dtu.asg (lk rfl)) rfl ?_
    refine Ops.nil ?_
    refine Then.next ?_
    refine Body.ret ?_
    exact ⟨.inr rfl, _, pk [0] rfl, rfl⟩
theorem partsS_mem {L : List Prt} {id : Nat} {q : Prt} (h : q ∈ partsS L id) : q ∈ L ∧ q.id = id := by
  obtain ⟨k, hk, hq⟩ := List.mem_flatMap.1 h
  have := List.mem_filter.1 hq
  exact ⟨this.1, (of_decide_eq_true this.2).1⟩
theorem partsS_len (L : List Prt) (id : Nat) : (partsS L id).length ≤ 64 * L.length := partsTo_len L id 64
theorem rmissing_r (E : Env) (b fl id : Nat) (s : Value) (L : List Prt) (hA : At (own b [.int .u64 (fl : Nat), s] 48) E) (hs : Sl E [] 4 s L.length (L.flatMap Prt.enc)) (hL : ∀ p ∈ L, IsSl p.s) (hn : L.length ≤ 1000) (hc : ∀ p ∈ L, 1 ≤ p.ct ∧ p.ct ≤ 64) : Does Try.prog 20 #[.pointer (some ⟨b, 0, none⟩), .int .u64 (id : Nat)] E ([]) fun r H' => r = .int .i64 (if (partsS L id).length = 0 then 0 else (partsS L id)[0]!.ct - ((partsS L id).length : Int)) ∧ H' = [] := by
  have hpl := partsS_len L id
  by_cases h0 : (partsS L id).length = 0
  · rw [if_pos h0]
    refine Does.go _ _ Try.func20 rfl Try.ntmps20 rfl rfl ?_
    skip
    refine Body.seq ?_
    refine Body.region ?_
    refine Ops.u (Dtu.asg (lk rfl)) rfl ?_
    refine Ops.nil ?_
    refine Then.next ?_
    refine Body.seq ?_
    refine Body.region ?_
    refine Ops.u (Dtu.mv (lk rfl)) rfl ?_
    refine Ops.u (Dtu.mv (lk rfl)) rfl ?_
    refine Ops.s (Stp.call rfl Try.call46 (lks rfl) (fun E' le hat => rparts_r E' _ _ _ _ _ (by first | exact At.mono (by assumption) le | exact hat _ (.head _) | exact hat _ (.tail _ (.head _)) | exact hat _ (.tail _ (.tail _ (.head _))) | exact hat _ (.tail _ (.tail _ (.tail _ (.head _)))) | exact hat _ (.tail _ (.tail _ (.tail _ (.tail _ (.head _))))) | exact hat _ (.tail _ (.tail _ (.tail _ (.tail _ (.tail _ (.head _)))))) | exact hat _ (.tail _ (.tail _ (.tail _ (.tail _ (.tail _ (.tail _ (.head _))))))) | exact hat _ (.tail _ (.tail _ (.tail _ (.tail _ (.tail _ (.tail _ (.tail _ (.head _)))))))) | exact hat _ (.tail _ (.tail _ (.tail _ (.tail _ (.tail _ (.tail _ (.tail _ (.tail _ (.head _))))))))) | exact hat _ (.tail _ (.tail _ (.tail _ (.tail _ (.tail _ (.tail _ (.tail _ (.tail _ (.tail _ (.head _))))))))))) (by first | exact Sl.mono (by assumption) le | exact Sl.hatI hat 0 rfl | exact Sl.hatI hat 1 rfl | exact Sl.hatI hat 2 rfl | exact Sl.hatI hat 3 rfl | exact Sl.hatI hat 4 rfl | exact Sl.hatI hat 5 rfl | exact Sl.hatI hat 6 rfl | exact Sl.hatI hat 7 rfl | exact Sl.hatI hat 8 rfl | exact Sl.hatI hat 9 rfl | exact Sl.hatI hat 10 rfl | exact Sl.hatI hat 11 rfl | exact Sl.hatI hat 12 rfl | exact Sl.hatI hat 13 rfl | exact Sl.hatI hat 14 rfl | exact Sl.hatI hat 15 rfl | exact Sl.hatW hat 0 rfl | exact Sl.hatW hat 1 rfl | exact Sl.hatW hat 2 rfl | exact Sl.hatW hat 3 rfl | exact Sl.hatW hat 4 rfl | exact Sl.hatW hat 5 rfl | exact Sl.hatW hat 6 rfl | exact Sl.hatW hat 7 rfl | exact Sl.hatW hat 8 rfl | exact Sl.hatW hat 9 rfl) hL hn) ?_) rfl
    rintro _ _ rfl
    refine Ops.u (Dtu.asg (lk rfl)) rfl ?_
    refine Ops.nil ?_
    refine Then.next ?_
    refine Body.seq ?_
    refine Body.seq ?_
    refine Body.region ?_
    refine Ops.u (Dtu.mv (lk rfl)) rfl ?_
    refine Ops.u (Dtu.lenS Try.underlying46 (Sl.osl 0 rfl) (lk rfl)) rfl ?_
    refine Ops.u (Dtu.eql (lk rfl) (lk rfl)) rfl ?_
    refine Ops.nil ?_
    refine Then.next ?_
    refine Body.condP (lk rfl) (fun _ => ?_) (fun hn => absurd (by first | omega | assumption | decide) hn)
    refine Body.seq ?_
    refine Body.region ?_
    refine Ops.u (Dtu.asg (lk rfl)) rfl ?_
    refine Ops.nil ?_
    refine Then.next ?_
    refine Body.ret ?_
    refine Then.ret ?_
    exact ⟨.inr rfl, _, pk [] rfl, rfl, rfl⟩
  · rw [if_neg h0]
    have hc0 := hc (partsS L id)[0]! (partsS_mem (id := id) (by rw [getElem!_pos _ 0 (by omega)]; exact List.getElem_mem _)).1
    refine Does.go _ _ Try.func20 rfl Try.ntmps20 rfl rfl ?_
    skip
    refine Body.seq ?_
    refine Body.region ?_
    refine Ops.u (Dtu.asg (lk rfl)) rfl ?_
    refine Ops.nil ?_
    refine Then.next ?_
    refine Body.seq ?_
    refine Body.region ?_
    refine Ops.u (Dtu.mv (lk rfl)) rfl ?_
    refine Ops.u (Dtu.mv (lk rfl)) rfl ?_
    refine Ops.s (Stp.call rfl Try.call46 (lks rfl) (fun E' le hat => rparts_r E' _ _ _ _ _ (by first | exact At.mono (by assumption) le | exact hat _ (.head _) | exact hat _ (.tail _ (.head _)) | exact hat _ (.tail _ (.tail _ (.head _))) | exact hat _ (.tail _ (.tail _ (.tail _ (.head _)))) | exact hat _ (.tail _ (.tail _ (.tail _ (.tail _ (.head _))))) | exact hat _ (.tail _ (.tail _ (.tail _ (.tail _ (.tail _ (.head _)))))) | exact hat _ (.tail _ (.tail _ (.tail _ (.tail _ (.tail _ (.tail _ (.head _))))))) | exact hat _ (.tail _ (.tail _ (.tail _ (.tail _ (.tail _ (.tail _ (.tail _ (.head _)))))))) | exact hat _ (.tail _ (.tail _ (.tail _ (.tail _ (.tail _ (.tail _ (.tail _ (.tail _ (.head _))))))))) | exact hat _ (.tail _ (.tail _ (.tail _ (.tail _ (.tail _ (.tail _ (.tail _ (.tail _ (.tail _ (.head _))))))))))) (by first | exact Sl.mono (by assumption) le | exact Sl.hatI hat 0 rfl | exact Sl.hatI hat 1 rfl | exact Sl.hatI hat 2 rfl | exact Sl.hatI hat 3 rfl | exact Sl.hatI hat 4 rfl | exact Sl.hatI hat 5 rfl | exact Sl.hatI hat 6 rfl | exact Sl.hatI hat 7 rfl | exact Sl.hatI hat 8 rfl | exact Sl.hatI hat 9 rfl | exact Sl.hatI hat 10 rfl | exact Sl.hatI hat 11 rfl | exact Sl.hatI hat 12 rfl | exact Sl.hatI hat 13 rfl | exact Sl.hatI hat 14 rfl | exact Sl.hatI hat 15 rfl | exact Sl.hatW hat 0 rfl | exact Sl.hatW hat 1 rfl | exact Sl.hatW hat 2 rfl | exact Sl.hatW hat 3 rfl | exact Sl.hatW hat 4 rfl | exact Sl.hatW hat 5 rfl | exact Sl.hatW hat 6 rfl | exact Sl.hatW hat 7 rfl | exact Sl.hatW hat 8 rfl | exact Sl.hatW hat 9 rfl) hL hn) ?_) rfl
    rintro _ _ rfl
    refine Ops.u (Dtu.asg (lk rfl)) rfl ?_
    refine Ops.nil ?_
    refine Then.next ?_
    refine Body.seq ?_
    refine Body.seq ?_
    refine Body.region ?_
    refine Ops.u (Dtu.mv (lk rfl)) rfl ?_
    refine Ops.u (Dtu.lenS Try.underlying46 (Sl.osl 0 rfl) (lk rfl)) rfl ?_
    refine Ops.u (Dtu.eql (lk rfl) (lk rfl)) rfl ?_
    refine Ops.nil ?_
    refine Then.next ?_
    refine Body.condP (lk rfl) (fun hy => absurd hy (by first | omega | assumption | decide)) (fun _ => ?_)
    refine Body.skip ?_
    refine Then.next ?_
    refine Body.seq ?_
    refine Body.region ?_
    refine Ops.u (Dtu.mv (lk rfl)) rfl ?_
    refine Ops.u (Dtu.ix (i := 0) Try.underlying46 Try.sizeOf44 (Sl.osl 0 rfl) (lk rfl) (lk rfl) (by omega) (by omega)) rfl ?_
    refine Ops.u (Dtu.fld fa44_2 (lk rfl)) rfl ?_
    refine Ops.d (Det.ld Try.isAgg3 (lk rfl) (Rd.sl2 (Sl.osl 0 rfl) (gfe (sz := 4) (fun _ => rfl) (by omega) rfl))) rfl ?_
    refine Ops.u (Dtu.mv (lk rfl)) rfl ?_
    refine Ops.u (Dtu.lenS Try.underlying46 (Sl.osl 0 rfl) (lk rfl)) rfl ?_
    refine Ops.u (Dtu.sub (lk rfl) (lk rfl) (w64 (by omega) (by omega))) rfl ?_
    refine Ops.u (Dtu.asg (lk rfl)) rfl ?_
    refine Ops.nil ?_
    refine Then.next ?_
    refine Body.ret ?_
    exact ⟨.inr rfl, _, pk [] rfl, rfl, rfl⟩
theorem rraise_o (E : Env) (b fl fl2 : Nat) (s : Value) (L : List Prt) (hL : ∀ p ∈ L, IsSl p.s) (hn : L.length ≤ 1000) : Does Try.prog 47 #[.pointer (some ⟨b, 0, none⟩), .int .u64 (fl2 : Nat)] E ([own b [.int .u64 (fl : Nat), s] 48, osl 44 4 s L.length (L.flatMap Prt.enc)]) fun r H' => ∃ a m c, r = .tuple #[] ∧ H' = [own b [.int .u64 (fl2 : Nat), .slice a m c] 48, osl 44 4 (.slice a m c) (L.filter fun p => decide (fl2 ≤ p.id)).length ((L.filter fun p => decide (fl2 ≤ p.id)).flatMap Prt.enc)] := by
  refine Does.go _ _ Try.func47 rfl Try.ntmps47 rfl rfl ?_
  skip
  refine Body.seq ?_
  refine Body.region ?_
  refine Ops.u (Dtu.asg (lk rfl)) rfl ?_
  refine Ops.nil ?_
  refine Then.next ?_
  refine Body.seq ?_
  refine Body.seq ?_
  refine Body.region ?_
  refine Ops.u (Dtu.asg (lk rfl)) rfl ?_
  refine Ops.nil ?_
  refine Then.next ?_
  refine Body.block ?_
  refine Body.addNil 44 4 none ?_
  refine Body.loopL (γ := Nat × Value) [0, 1] rfl (fun g => [(5, .int .i64 (g.1 : Nat)), (4, g.2)]) (fun g => [(0, osl 44 4 g.2 ((L.take g.1).filter fun p => decide (fl2 ≤ p.id)).length (((L.take g.1).filter fun p => decide (fl2 ≤ p.id)).flatMap Prt.enc))]) (fun _ => rfl) (fun _ _ => rfl) (fun g => g.1 ≤ L.length) (fun g => L.length - g.1) ((0, .slice none 0 0)) (Nat.zero_le _) ⟨rfl, rfl, trivial⟩ rfl ?_
  rintro ⟨i, v⟩ u hi
  dsimp only at hi ⊢
  have hql := List.length_filter_le (fun p : Prt => decide (fl2 ≤ p.id)) (L.take i)
  rw [List.length_take] at hql
  by_cases hli : i < L.length
  · have hst := filter_step (fun p : Prt => decide (fl2 ≤ p.id)) L hli
    rw [← getElem!_pos L i hli] at hst
    obtain ⟨qa, qm, qc, hqs⟩ := hL L[i]! (by rw [getElem!_pos L i hli]; exact List.getElem_mem _)
    have hone := Prt.one hqs
    by_cases hc : fl2 ≤ L[i]!.id
    · rw [if_pos (decide_eq_true hc)] at hst
      refine Body.seq ?_
      refine Body.seq ?_
      refine Body.region ?_
      refine Ops.u (Dtu.mv (lk rfl)) rfl ?_
      refine Ops.u (Dtu.mv (lk rfl)) rfl ?_
      refine Ops.u (Dtu.nilck (lk rfl)) rfl ?_
      refine Ops.u (Dtu.fld fa48_1 (lk rfl)) rfl ?_
      refine Ops.d (Det.ld Try.isAgg46 (lk rfl) (Rd.ow 1 rfl rfl)) rfl ?_
      refine Ops.u (Dtu.lenS Try.underlying46 (Sl.osl 2 rfl) (lk rfl)) rfl ?_
      refine Ops.u (Dtu.lss (lk rfl) (lk rfl)) rfl ?_
      refine Ops.nil ?_
      refine Then.next ?_
      refine Body.condP (lk rfl) (fun _ => ?_) (fun hn => absurd (by first | omega | assumption | decide) hn)
      refine Body.skip ?_
      refine Then.next ?_
      refine Body.seq ?_
      refine Body.block ?_
      refine Body.seq ?_
      refine Body.region ?_
      refine Ops.u (Dtu.mv (lk rfl)) rfl ?_
      refine Ops.u (Dtu.nilck (lk rfl)) rfl ?_
      refine Ops.u (Dtu.fld fa48_1 (lk rfl)) rfl ?_
      refine Ops.d (Det.ld Try.isAgg46 (lk rfl) (Rd.ow 1 rfl rfl)) rfl ?_
      refine Ops.u (Dtu.mv (lk rfl)) rfl ?_
      refine Ops.u (Dtu.ix (i := (i)) Try.underlying46 Try.sizeOf44 (Sl.osl 2 rfl) (lk rfl) (lk rfl) (by omega) (by omega)) rfl ?_
      refine Ops.u (Dtu.fld fa44_0 (lk rfl)) rfl ?_
      refine Ops.d (Det.ld Try.isAgg22 (lk rfl) (Rd.sl2 (Sl.osl 2 rfl) (gfe (sz := 4) (fun _ => rfl) (by omega) rfl))) rfl ?_
      refine Ops.u (Dtu.mv (lk rfl)) rfl ?_
      refine Ops.u (Dtu.geq (lk rfl) (lk rfl)) rfl ?_
      refine Ops.nil ?_
      refine Then.next ?_
      refine Body.condP (lk rfl) (fun _ => ?_) (fun hn => absurd (by first | omega | assumption | decide) hn)
      refine Body.region ?_
      refine Ops.u (Dtu.mv (lk rfl)) rfl ?_
      refine Ops.u (Dtu.mv (lk rfl)) rfl ?_
      refine Ops.u (Dtu.nilck (lk rfl)) rfl ?_
      refine Ops.u (Dtu.fld fa48_1 (lk rfl)) rfl ?_
      refine Ops.d (Det.ld Try.isAgg46 (lk rfl) (Rd.ow 1 rfl rfl)) rfl ?_
      refine Ops.u (Dtu.mv (lk rfl)) rfl ?_
      refine Ops.u (Dtu.ix (i := (i)) Try.underlying46 Try.sizeOf44 (Sl.osl 2 rfl) (lk rfl) (lk rfl) (by omega) (by omega)) rfl ?_
      refine Ops.d (Det.lda Try.isAgg44 Try.sizeOf44 (lk rfl) (Rds.sl (Sl.osl 2 rfl) (gf (sz := 4) (fun _ => rfl) (by omega))) rfl) rfl ?_
      refine Ops.s (Stp.buildSliceO Try.underlying46 ty44 (by decide) (by decide) (lkp rfl) rfl rfl rfl (by decide) (fun v33 => ?_)) rfl
      refine Ops.s (Stp.append 1 Try.underlying46 ty44 rfl rfl (lk rfl) (lk rfl) (Sl.osl 0 rfl) (by first | rfl | exact all_map (fun _ => rfl) _ | exact all_flat (fun _ => rfl) _ | exact all_one (by assumption)) (by omega) (by omega) (fun v34 => ?_)) rfl
      refine Ops.u (Dtu.asg (lk rfl)) rfl ?_
      refine Ops.nil ?_
      refine Blk.norm ?_
      refine Then.next ?_
      refine Body.region ?_
      refine Ops.u (Dtu.mv (lk rfl)) rfl ?_
      refine Ops.u (Dtu.add (lk rfl) (lk rfl) (w64 (by omega) (by omega))) rfl ?_
      refine Ops.u (Dtu.asg (lk rfl)) rfl ?_
      refine Ops.nil ?_
      refine Round.goL [1, 1, 1] (i + 1, v34) rfl ⟨rfl, rfl, trivial⟩ rfl (by (try dsimp only); rw [hst, List.length_append, List.flatMap_append]; try rfl) hli (by dsimp only; omega)
    · rw [if_neg (by rw [decide_eq_true_iff]; exact hc), List.append_nil] at hst
      refine Body.seq ?_
      refine Body.seq ?_
      refine Body.region ?_
      refine Ops.u (Dtu.mv (lk rfl)) rfl ?_
      refine Ops.u (Dtu.mv (lk rfl)) rfl ?_
      refine Ops.u (Dtu.nilck (lk rfl)) rfl ?_
      refine Ops.u (Dtu.fld fa48_1 (lk rfl)) rfl ?_
      refine Ops.d (Det.ld Try.isAgg46 (lk rfl) (Rd.ow 1 rfl rfl)) rfl ?_
      refine Ops.u (Dtu.lenS Try.underlying46 (Sl.osl 2 rfl) (lk rfl)) rfl ?_
      refine Ops.u (Dtu.lss (lk rfl) (lk rfl)) rfl ?_
      refine Ops.nil ?_
      refine Then.next ?_
      refine Body.condP (lk rfl) (fun _ => ?_) (fun hn => absurd (by first | omega | assumption | decide) hn)
      refine Body.skip ?_
      refine Then.next ?_
      refine Body.seq ?_
      refine Body.block ?_
      refine Body.seq ?_
      refine Body.region ?_
      refine Ops.u (Dtu.mv (lk rfl)) rfl ?_
      refine Ops.u (Dtu.nilck (lk rfl)) rfl ?_
      refine Ops.u (Dtu.fld fa48_1 (lk rfl)) rfl ?_
      refine Ops.d (Det.ld Try.isAgg46 (lk rfl) (Rd.ow 1 rfl rfl)) rfl ?_
      refine Ops.u (Dtu.mv (lk rfl)) rfl ?_
      refine Ops.u (Dtu.ix (i := (i)) Try.underlying46 Try.sizeOf44 (Sl.osl 2 rfl) (lk rfl) (lk rfl) (by omega) (by omega)) rfl ?_
      refine Ops.u (Dtu.fld fa44_0 (lk rfl)) rfl ?_
      refine Ops.d (Det.ld Try.isAgg22 (lk rfl) (Rd.sl2 (Sl.osl 2 rfl) (gfe (sz := 4) (fun _ => rfl) (by omega) rfl))) rfl ?_
      refine Ops.u (Dtu.mv (lk rfl)) rfl ?_
      refine Ops.u (Dtu.geq (lk rfl) (lk rfl)) rfl ?_
      refine Ops.nil ?_
      refine Then.next ?_
      refine Body.condP (lk rfl) (fun hy => absurd hy (by first | omega | assumption | decide)) (fun _ => ?_)
      refine Body.skip ?_
      refine Blk.norm ?_
      refine Then.next ?_
      refine Body.region ?_
      refine Ops.u (Dtu.mv (lk rfl)) rfl ?_
      refine Ops.u (Dtu.add (lk rfl) (lk rfl) (w64 (by omega) (by omega))) rfl ?_
      refine Ops.u (Dtu.asg (lk rfl)) rfl ?_
      refine Ops.nil ?_
      refine Round.goL [0, 0, 0] (i + 1, v) rfl ⟨rfl, rfl, trivial⟩ rfl (by (try dsimp only); rw [hst]) hli (by dsimp only; omega)
  · have hi' : i = L.length := by omega
    have hta : L.take i = L := by rw [hi', List.take_length]
    rw [hta]
    refine Body.seq ?_
    refine Body.seq ?_
    refine Body.region ?_
    refine Ops.u (Dtu.mv (lk rfl)) rfl ?_
    refine Ops.u (Dtu.mv (lk rfl)) rfl ?_
    refine Ops.u (Dtu.nilck (lk rfl)) rfl ?_
    refine Ops.u (Dtu.fld fa48_1 (lk rfl)) rfl ?_
    refine Ops.d (Det.ld Try.isAgg46 (lk rfl) (Rd.ow 1 rfl rfl)) rfl ?_
    refine Ops.u (Dtu.lenS Try.underlying46 (Sl.osl 2 rfl) (lk rfl)) rfl ?_
    refine Ops.u (Dtu.lss (lk rfl) (lk rfl)) rfl ?_
    refine Ops.nil ?_
    refine Then.next ?_
    refine Body.condP (lk rfl) (fun hy => absurd hy (by first | omega | assumption | decide)) (fun _ => ?_)
    refine Body.exit ?_
    refine Then.exit ?_
    refine Round.exit ?_
    refine Blk.here ?_
    refine Then.next ?_
    refine Body.region ?_
    refine Ops.u (Dtu.mv (lk rfl)) rfl ?_
    refine Ops.u (Dtu.mv (lk rfl)) rfl ?_
    refine Ops.u (Dtu.mv (lk rfl)) rfl ?_
    refine Ops.u (Dtu.mv (lk rfl)) rfl ?_
    refine Ops.u (Dtu.nilck (lk rfl)) rfl ?_
    refine Ops.u (Dtu.fld fa48_0 (lk rfl)) rfl ?_
    refine Ops.e (Stp.store 1 Try.sizeOf22 (lk rfl) (lk rfl) rfl rfl rfl rfl rfl rfl rfl ?_)
    refine Ops.u (Dtu.nilck (lk rfl)) rfl ?_
    refine Ops.u (Dtu.fld fa48_1 (lk rfl)) rfl ?_
    refine Ops.pure (Sl.shape (Sl.osl 0 rfl)) fun hslv => ?_
    obtain ⟨va, vc, rfl⟩ := hslv
    refine Ops.e (Stp.store 1 Try.sizeOf46 (lk rfl) (lk rfl) rfl rfl rfl rfl rfl rfl rfl ?_)
    refine Ops.nil ?_
    exact ⟨.inl rfl, _, pk [1, 0] rfl, ⟨_, _, _, rfl, rfl⟩⟩
theorem ins_ok {ws : List Nat} {q x : Nat} (hq : q ≤ ws.length) (h1 : ∀ j, j < q → ws[j]! < x) (h2 : q < ws.length → x < ws[q]!) (hs : ws.Pairwise (· < ·)) : (ws.take q ++ x :: ws.drop q).Pairwise (· < ·) := by
  have hb : ∀ y ∈ ws.drop q, x < y := fun y hy => by
    obtain ⟨j, hj, rfl⟩ := List.getElem_of_mem hy
    rw [List.getElem_drop]
    have hl : q + j < ws.length := by simp at hj; omega
    have h3 := h2 (by omega)
    rw [getElem!_pos ws q (by omega)] at h3
    by_cases h0 : j = 0
    · subst h0; exact h3
    · exact Nat.lt_trans h3 (List.pairwise_iff_getElem.1 hs q (q + j) (by omega) hl (by omega))
  have ha : ∀ y ∈ ws.take q, y < x := fun y hy => by
    obtain ⟨j, hj, rfl⟩ := List.getElem_of_mem hy
    rw [List.getElem_take]
    have := h1 j (by simp at hj; omega)
    rwa [getElem!_pos ws j (by simp at hj; omega)] at this
  rw [List.pairwise_append]
  refine ⟨hs.sublist (List.take_sublist _ _), List.pairwise_cons.2 ⟨hb, hs.sublist (List.drop_sublist _ _)⟩, fun a h b h' => ?_⟩
  rcases List.mem_cons.1 h' with rfl | h'
  · exact ha a h
  · exact Nat.lt_trans (ha a h) (hb b h')
theorem ins_mem {ws : List Nat} {q x y : Nat} : y ∈ ws.take q ++ x :: ws.drop q ↔ y = x ∨ y ∈ ws := by
  conv => rhs; rw [← List.take_append_drop q ws]
  simp only [List.mem_append, List.mem_cons]
  constructor
  · rintro (h | h | h)
    · exact .inr (.inl h)
    · exact .inl h
    · exact .inr (.inr h)
  · rintro (h | h | h)
    · exact .inr (.inl h)
    · exact .inl h
    · exact .inr (.inr h)
theorem take_ids {L : List Prt} {i x : Nat} (hi : i < L.length) : (∃ p ∈ L.take (i + 1), p.id = x) ↔ x = L[i]!.id ∨ ∃ p ∈ L.take i, p.id = x := by
  rw [List.take_succ_eq_append_getElem hi, getElem!_pos L i hi]
  constructor
  · rintro ⟨p, hp, rfl⟩
    rcases List.mem_append.1 hp with h | h
    · exact .inr ⟨p, h, rfl⟩
    · rw [List.mem_singleton.1 h]; exact .inl rfl
  · rintro (rfl | ⟨p, hp, rfl⟩)
    · exact ⟨_, List.mem_append_right _ (.head _), rfl⟩
    · exact ⟨p, List.mem_append_left _ hp, rfl⟩
theorem ins_len {ws : List Nat} {q x : Nat} (hq : q ≤ ws.length) : (ws.take q ++ x :: ws.drop q).length = q - 0 + 1 + (ws.length - q) := by
  simp; omega
theorem ins_map {ws : List Nat} {q x : Nat} : (ws.take q ++ x :: ws.drop q).map u6 = List.map u6 (List.take (q - 0) (List.drop 0 ws)) ++ [.int .u64 (x : Nat)] ++ List.map u6 (List.take (ws.length - q) (List.drop q ws)) := by
  rw [List.take_of_length_le (l := ws.drop q) (by simp)]
  simp
theorem rwaits_r (E : Env) (b fl : Nat) (s : Value) (L : List Prt) (hA : At (own b [.int .u64 (fl : Nat), s] 48) E) (hs : Sl E [] 4 s L.length (L.flatMap Prt.enc)) (hn : L.length ≤ 1000) : Does Try.prog 18 #[.pointer (some ⟨b, 0, none⟩)] E ([]) fun r H' => ∃ ws : List Nat, H' = [osl 22 1 r ws.length (ws.map u6)] ∧ ws.Pairwise (· < ·) ∧ ∀ x, x ∈ ws ↔ ∃ p ∈ L, p.id = x := by
  refine Does.go _ _ Try.func18 rfl Try.ntmps18 rfl rfl ?_
  skip
  refine Body.seq ?_
  refine Body.region ?_
  refine Ops.u (Dtu.asg (lk rfl)) rfl ?_
  refine Ops.nil ?_
  refine Then.next ?_
  refine Body.seq ?_
  refine Body.region ?_
  refine Ops.u (Dtu.asg (lk rfl)) rfl ?_
  refine Ops.nil ?_
  refine Then.next ?_
  refine Body.seq ?_
  refine Body.seq ?_
  refine Body.region ?_
  refine Ops.u (Dtu.asg (lk rfl)) rfl ?_
  refine Ops.nil ?_
  refine Then.next ?_
  refine Body.block ?_
  refine Body.addNil 22 1 none ?_
  refine Body.loopL (γ := Nat × List Nat × Value) [0, 2] rfl (fun g => [(4, .int .i64 (g.1 : Nat)), (3, g.2.2)]) (fun g => [(0, osl 22 1 g.2.2 g.2.1.length (g.2.1.map u6))]) (fun _ => rfl) (fun _ _ => rfl) (fun g => g.1 ≤ L.length ∧ g.2.1.length ≤ g.1 ∧ g.2.1.Pairwise (· < ·) ∧ ∀ x, x ∈ g.2.1 ↔ ∃ p ∈ L.take g.1, p.id = x) (fun g => L.length - g.1) ((0, [], .slice none 0 0)) (⟨Nat.zero_le _, Nat.le_refl _, List.Pairwise.nil, by simp⟩) ⟨rfl, rfl, trivial⟩ rfl ?_
  rintro ⟨i, ws, v⟩ u ⟨hi, hwl, hws, hwm⟩
  dsimp only at hi hwl hws hwm ⊢
  by_cases hli : i < L.length
  · refine Body.seq ?_
    refine Body.seq ?_
    refine Body.region ?_
    refine Ops.u (Dtu.mv (lk rfl)) rfl ?_
    refine Ops.u (Dtu.mv (lk rfl)) rfl ?_
    refine Ops.u (Dtu.nilck (lk rfl)) rfl ?_
    refine Ops.u (Dtu.fld fa48_1 (lk rfl)) rfl ?_
    refine Ops.d (Det.ld Try.isAgg46 (lk rfl) (Rd.env (own_at hA rfl))) rfl ?_
    refine Ops.u (Dtu.lenS Try.underlying46 (Sl.up hs) (lk rfl)) rfl ?_
    refine Ops.u (Dtu.lss (lk rfl) (lk rfl)) rfl ?_
    refine Ops.nil ?_
    refine Then.next ?_
    refine Body.condP (lk rfl) (fun _ => ?_) (fun hn => absurd (by first | omega | assumption | decide) hn)
    refine Body.skip ?_
    refine Then.next ?_
    refine Body.seq ?_
    refine Body.block ?_
    refine Body.seq ?_
    refine Body.region ?_
    refine Ops.u (Dtu.asg (lk rfl)) rfl ?_
    refine Ops.nil ?_
    refine Then.next ?_
    refine Body.seq ?_
    refine Body.block ?_
    refine Body.loopL (γ := Nat) [0, 2, 3, 4] rfl (fun q => [(5, .int .i64 (q : Nat))]) (fun q => []) (fun _ => rfl) (fun _ _ => rfl) (fun q => q ≤ ws.length ∧ ∀ j, j < q → ws[j]! < L[i]!.id) (fun q => ws.length - q) (0) (⟨Nat.zero_le _, fun j hj => by omega⟩) ⟨rfl, trivial⟩ rfl ?_
    rintro q u2 ⟨ha, hb⟩
    by_cases hal : q < ws.length
    · by_cases hlt : ws[q]! < L[i]!.id
      · refine Body.seq ?_
        refine Body.seq ?_
        refine Body.draw mixed ?_
        refine AB.u 0 rfl (by decide +kernel) (Dtu.mv (lk rfl)) rfl ?_
        refine AB.u 1 rfl (by decide +kernel) (Dtu.mv (lk rfl)) rfl ?_
        refine AB.u 2 rfl (by decide +kernel) (Dtu.lenS Try.underlying38 (Sl.osl 0 rfl) (lk rfl)) rfl ?_
        refine AB.u 3 rfl (by decide +kernel) (Dtu.lss (lk rfl) (lk rfl)) rfl ?_
        refine AB.u 4 rfl (by decide +kernel) (Dtu.mv (lk rfl)) rfl ?_
        refine AB.decP 20 rfl (fun _ => ?_) (fun hn => absurd (by first | omega | assumption | decide) hn)
        refine AB.gu 5 rfl (by decide +kernel) rfl rfl rfl (Dtu.mv (lk rfl)) rfl ?_
        refine AB.gu 6 rfl (by decide +kernel) rfl rfl rfl (Dtu.mv (lk rfl)) rfl ?_
        refine AB.gu 7 rfl (by decide +kernel) rfl rfl rfl (Dtu.ix (i := (q)) Try.underlying38 Try.sizeOf22 (Sl.osl 0 rfl) (lk rfl) (lk rfl) (by omega) (by omega)) rfl ?_
        refine AB.gd 8 rfl (by decide +kernel) rfl rfl rfl rfl (Det.ld Try.isAgg22 (lk rfl) (Rd.sl (Sl.osl 0 rfl) (gm (by omega)))) rfl ?_
        refine AB.gu 9 rfl (by decide +kernel) rfl rfl rfl (Dtu.mv (lk rfl)) rfl ?_
        refine AB.gu 10 rfl (by decide +kernel) rfl rfl rfl (Dtu.nilck (lk rfl)) rfl ?_
        refine AB.gu 11 rfl (by decide +kernel) rfl rfl rfl (Dtu.fld fa48_1 (lk rfl)) rfl ?_
        refine AB.gd 12 rfl (by decide +kernel) rfl rfl rfl rfl (Det.ld Try.isAgg46 (lk rfl) (Rd.env (own_at hA rfl))) rfl ?_
        refine AB.gu 13 rfl (by decide +kernel) rfl rfl rfl (Dtu.mv (lk rfl)) rfl ?_
        refine AB.gu 14 rfl (by decide +kernel) rfl rfl rfl (Dtu.ix (i := (i)) Try.underlying46 Try.sizeOf44 (Sl.up hs) (lk rfl) (lk rfl) (by omega) (by omega)) rfl ?_
        refine AB.gu 15 rfl (by decide +kernel) rfl rfl rfl (Dtu.fld fa44_0 (lk rfl)) rfl ?_
        refine AB.gd 16 rfl (by decide +kernel) rfl rfl rfl rfl (Det.ld Try.isAgg22 (lk rfl) (Rd.sl2 (Sl.up hs) (gfe (sz := 4) (fun _ => rfl) (by omega) rfl))) rfl ?_
        refine AB.gu 17 rfl (by decide +kernel) rfl rfl rfl (Dtu.lss (lk rfl) (lk rfl)) rfl ?_
        refine AB.u 18 rfl (by decide +kernel) (Dtu.pickT (lk rfl) (lk rfl)) rfl ?_
        refine AB.done (by decide +kernel) ?_
        refine Then.next ?_
        refine Body.condP (lk rfl) (fun _ => ?_) (fun hn => absurd (by first | omega | assumption | decide) hn)
        refine Body.skip ?_
        refine Then.next ?_
        refine Body.block ?_
        refine Body.region ?_
        refine Ops.u (Dtu.mv (lk rfl)) rfl ?_
        refine Ops.u (Dtu.add (lk rfl) (lk rfl) (w64 (by omega) (by omega))) rfl ?_
        refine Ops.u (Dtu.asg (lk rfl)) rfl ?_
        refine Ops.nil ?_
        refine Blk.norm ?_
        refine Round.goL [0] (q + 1) rfl ⟨rfl, trivial⟩ rfl rfl ⟨by omega, fun j hj => by by_cases h : j = q; (subst h; exact hlt); exact hb j (by omega)⟩ (by omega)
      · by_cases heq : ws[q]! = L[i]!.id
        · have hmm : ∀ x, x ∈ ws ↔ ∃ p ∈ L.take (i + 1), p.id = x := fun x => by
            rw [take_ids hli, ← hwm, ← heq]
            exact ⟨.inr, fun h => h.elim (fun h => h ▸ (by rw [getElem!_pos ws q hal]; exact List.getElem_mem _)) (fun h => h)⟩
          refine Body.seq ?_
          refine Body.seq ?_
          refine Body.draw mixed ?_
          refine AB.u 0 rfl (by decide +kernel) (Dtu.mv (lk rfl)) rfl ?_
          refine AB.u 1 rfl (by decide +kernel) (Dtu.mv (lk rfl)) rfl ?_
          refine AB.u 2 rfl (by decide +kernel) (Dtu.lenS Try.underlying38 (Sl.osl 0 rfl) (lk rfl)) rfl ?_
          refine AB.u 3 rfl (by decide +kernel) (Dtu.lss (lk rfl) (lk rfl)) rfl ?_
          refine AB.u 4 rfl (by decide +kernel) (Dtu.mv (lk rfl)) rfl ?_
          refine AB.decP 20 rfl (fun _ => ?_) (fun hn => absurd (by first | omega | assumption | decide) hn)
          refine AB.gu 5 rfl (by decide +kernel) rfl rfl rfl (Dtu.mv (lk rfl)) rfl ?_
          refine AB.gu 6 rfl (by decide +kernel) rfl rfl rfl (Dtu.mv (lk rfl)) rfl ?_
          refine AB.gu 7 rfl (by decide +kernel) rfl rfl rfl (Dtu.ix (i := (q)) Try.underlying38 Try.sizeOf22 (Sl.osl 0 rfl) (lk rfl) (lk rfl) (by omega) (by omega)) rfl ?_
          refine AB.gd 8 rfl (by decide +kernel) rfl rfl rfl rfl (Det.ld Try.isAgg22 (lk rfl) (Rd.sl (Sl.osl 0 rfl) (gm (by omega)))) rfl ?_
          refine AB.gu 9 rfl (by decide +kernel) rfl rfl rfl (Dtu.mv (lk rfl)) rfl ?_
          refine AB.gu 10 rfl (by decide +kernel) rfl rfl rfl (Dtu.nilck (lk rfl)) rfl ?_
          refine AB.gu 11 rfl (by decide +kernel) rfl rfl rfl (Dtu.fld fa48_1 (lk rfl)) rfl ?_
          refine AB.gd 12 rfl (by decide +kernel) rfl rfl rfl rfl (Det.ld Try.isAgg46 (lk rfl) (Rd.env (own_at hA rfl))) rfl ?_
          refine AB.gu 13 rfl (by decide +kernel) rfl rfl rfl (Dtu.mv (lk rfl)) rfl ?_
          refine AB.gu 14 rfl (by decide +kernel) rfl rfl rfl (Dtu.ix (i := (i)) Try.underlying46 Try.sizeOf44 (Sl.up hs) (lk rfl) (lk rfl) (by omega) (by omega)) rfl ?_
          refine AB.gu 15 rfl (by decide +kernel) rfl rfl rfl (Dtu.fld fa44_0 (lk rfl)) rfl ?_
          refine AB.gd 16 rfl (by decide +kernel) rfl rfl rfl rfl (Det.ld Try.isAgg22 (lk rfl) (Rd.sl2 (Sl.up hs) (gfe (sz := 4) (fun _ => rfl) (by omega) rfl))) rfl ?_
          refine AB.gu 17 rfl (by decide +kernel) rfl rfl rfl (Dtu.lss (lk rfl) (lk rfl)) rfl ?_
          refine AB.u 18 rfl (by decide +kernel) (Dtu.pickT (lk rfl) (lk rfl)) rfl ?_
          refine AB.done (by decide +kernel) ?_
          refine Then.next ?_
          refine Body.condP (lk rfl) (fun hy => absurd hy (by first | omega | assumption | decide)) (fun _ => ?_)
          refine Body.exit ?_
          refine Then.exit ?_
          refine Round.exit ?_
          refine Blk.here ?_
          refine Then.next ?_
          refine Body.seq ?_
          refine Body.seq ?_
          refine Body.draw mixed ?_
          refine AB.u 0 rfl (by decide +kernel) (Dtu.mv (lk rfl)) rfl ?_
          refine AB.u 1 rfl (by decide +kernel) (Dtu.mv (lk rfl)) rfl ?_
          refine AB.u 2 rfl (by decide +kernel) (Dtu.lenS Try.underlying38 (Sl.osl 0 rfl) (lk rfl)) rfl ?_
          refine AB.u 3 rfl (by decide +kernel) (Dtu.lss (lk rfl) (lk rfl)) rfl ?_
          refine AB.u 4 rfl (by decide +kernel) (Dtu.mv (lk rfl)) rfl ?_
          refine AB.decP 41 rfl (fun _ => ?_) (fun hn => absurd (by first | omega | assumption | decide) hn)
          refine AB.gu 5 rfl (by decide +kernel) rfl rfl rfl (Dtu.mv (lk rfl)) rfl ?_
          refine AB.gu 6 rfl (by decide +kernel) rfl rfl rfl (Dtu.mv (lk rfl)) rfl ?_
          refine AB.gu 7 rfl (by decide +kernel) rfl rfl rfl (Dtu.ix (i := (q)) Try.underlying38 Try.sizeOf22 (Sl.osl 0 rfl) (lk rfl) (lk rfl) (by omega) (by omega)) rfl ?_
          refine AB.gd 8 rfl (by decide +kernel) rfl rfl rfl rfl (Det.ld Try.isAgg22 (lk rfl) (Rd.sl (Sl.osl 0 rfl) (gm (by omega)))) rfl ?_
          refine AB.gu 9 rfl (by decide +kernel) rfl rfl rfl (Dtu.mv (lk rfl)) rfl ?_
          refine AB.gu 10 rfl (by decide +kernel) rfl rfl rfl (Dtu.nilck (lk rfl)) rfl ?_
          refine AB.gu 11 rfl (by decide +kernel) rfl rfl rfl (Dtu.fld fa48_1 (lk rfl)) rfl ?_
          refine AB.gd 12 rfl (by decide +kernel) rfl rfl rfl rfl (Det.ld Try.isAgg46 (lk rfl) (Rd.env (own_at hA rfl))) rfl ?_
          refine AB.gu 13 rfl (by decide +kernel) rfl rfl rfl (Dtu.mv (lk rfl)) rfl ?_
          refine AB.gu 14 rfl (by decide +kernel) rfl rfl rfl (Dtu.ix (i := (i)) Try.underlying46 Try.sizeOf44 (Sl.up hs) (lk rfl) (lk rfl) (by omega) (by omega)) rfl ?_
          refine AB.gu 15 rfl (by decide +kernel) rfl rfl rfl (Dtu.fld fa44_0 (lk rfl)) rfl ?_
          refine AB.gd 16 rfl (by decide +kernel) rfl rfl rfl rfl (Det.ld Try.isAgg22 (lk rfl) (Rd.sl2 (Sl.up hs) (gfe (sz := 4) (fun _ => rfl) (by omega) rfl))) rfl ?_
          refine AB.gu 17 rfl (by decide +kernel) rfl rfl rfl (Dtu.eql (lk rfl) (lk rfl)) rfl ?_
          refine AB.u 18 rfl (by decide +kernel) (Dtu.pickT (lk rfl) (lk rfl)) rfl ?_
          refine AB.done (by decide +kernel) ?_
          refine Then.next ?_
          refine Body.condP (lk rfl) (fun _ => ?_) (fun hn => absurd (by first | omega | assumption | decide) hn)
          refine Body.exit ?_
          refine Then.exit ?_
          refine Blk.here ?_
          refine Then.next ?_
          refine Body.region ?_
          refine Ops.u (Dtu.mv (lk rfl)) rfl ?_
          refine Ops.u (Dtu.add (lk rfl) (lk rfl) (w64 (by omega) (by omega))) rfl ?_
          refine Ops.u (Dtu.asg (lk rfl)) rfl ?_
          refine Ops.nil ?_
          refine Round.goL [0] (i + 1, ws, v) rfl ⟨rfl, rfl, trivial⟩ rfl rfl ⟨hli, by dsimp only; omega, hws, hmm⟩ (by dsimp only; omega)
        · refine Body.seq ?_
          refine Body.seq ?_
          refine Body.draw mixed ?_
          refine AB.u 0 rfl (by decide +kernel) (Dtu.mv (lk rfl)) rfl ?_
          refine AB.u 1 rfl (by decide +kernel) (Dtu.mv (lk rfl)) rfl ?_
          refine AB.u 2 rfl (by decide +kernel) (Dtu.lenS Try.underlying38 (Sl.osl 0 rfl) (lk rfl)) rfl ?_
          refine AB.u 3 rfl (by decide +kernel) (Dtu.lss (lk rfl) (lk rfl)) rfl ?_
          refine AB.u 4 rfl (by decide +kernel) (Dtu.mv (lk rfl)) rfl ?_
          refine AB.decP 20 rfl (fun _ => ?_) (fun hn => absurd (by first | omega | assumption | decide) hn)
          refine AB.gu 5 rfl (by decide +kernel) rfl rfl rfl (Dtu.mv (lk rfl)) rfl ?_
          refine AB.gu 6 rfl (by decide +kernel) rfl rfl rfl (Dtu.mv (lk rfl)) rfl ?_
          refine AB.gu 7 rfl (by decide +kernel) rfl rfl rfl (Dtu.ix (i := (q)) Try.underlying38 Try.sizeOf22 (Sl.osl 0 rfl) (lk rfl) (lk rfl) (by omega) (by omega)) rfl ?_
          refine AB.gd 8 rfl (by decide +kernel) rfl rfl rfl rfl (Det.ld Try.isAgg22 (lk rfl) (Rd.sl (Sl.osl 0 rfl) (gm (by omega)))) rfl ?_
          refine AB.gu 9 rfl (by decide +kernel) rfl rfl rfl (Dtu.mv (lk rfl)) rfl ?_
          refine AB.gu 10 rfl (by decide +kernel) rfl rfl rfl (Dtu.nilck (lk rfl)) rfl ?_
          refine AB.gu 11 rfl (by decide +kernel) rfl rfl rfl (Dtu.fld fa48_1 (lk rfl)) rfl ?_
          refine AB.gd 12 rfl (by decide +kernel) rfl rfl rfl rfl (Det.ld Try.isAgg46 (lk rfl) (Rd.env (own_at hA rfl))) rfl ?_
          refine AB.gu 13 rfl (by decide +kernel) rfl rfl rfl (Dtu.mv (lk rfl)) rfl ?_
          refine AB.gu 14 rfl (by decide +kernel) rfl rfl rfl (Dtu.ix (i := (i)) Try.underlying46 Try.sizeOf44 (Sl.up hs) (lk rfl) (lk rfl) (by omega) (by omega)) rfl ?_
          refine AB.gu 15 rfl (by decide +kernel) rfl rfl rfl (Dtu.fld fa44_0 (lk rfl)) rfl ?_
          refine AB.gd 16 rfl (by decide +kernel) rfl rfl rfl rfl (Det.ld Try.isAgg22 (lk rfl) (Rd.sl2 (Sl.up hs) (gfe (sz := 4) (fun _ => rfl) (by omega) rfl))) rfl ?_
          refine AB.gu 17 rfl (by decide +kernel) rfl rfl rfl (Dtu.lss (lk rfl) (lk rfl)) rfl ?_
          refine AB.u 18 rfl (by decide +kernel) (Dtu.pickT (lk rfl) (lk rfl)) rfl ?_
          refine AB.done (by decide +kernel) ?_
          refine Then.next ?_
          refine Body.condP (lk rfl) (fun hy => absurd hy (by first | omega | assumption | decide)) (fun _ => ?_)
          refine Body.exit ?_
          refine Then.exit ?_
          refine Round.exit ?_
          refine Blk.here ?_
          refine Then.next ?_
          refine Body.seq ?_
          refine Body.seq ?_
          refine Body.draw mixed ?_
          refine AB.u 0 rfl (by decide +kernel) (Dtu.mv (lk rfl)) rfl ?_
          refine AB.u 1 rfl (by decide +kernel) (Dtu.mv (lk rfl)) rfl ?_
          refine AB.u 2 rfl (by decide +kernel) (Dtu.lenS Try.underlying38 (Sl.osl 0 rfl) (lk rfl)) rfl ?_
          refine AB.u 3 rfl (by decide +kernel) (Dtu.lss (lk rfl) (lk rfl)) rfl ?_
          refine AB.u 4 rfl (by decide +kernel) (Dtu.mv (lk rfl)) rfl ?_
          refine AB.decP 41 rfl (fun _ => ?_) (fun hn => absurd (by first | omega | assumption | decide) hn)
          refine AB.gu 5 rfl (by decide +kernel) rfl rfl rfl (Dtu.mv (lk rfl)) rfl ?_
          refine AB.gu 6 rfl (by decide +kernel) rfl rfl rfl (Dtu.mv (lk rfl)) rfl ?_
          refine AB.gu 7 rfl (by decide +kernel) rfl rfl rfl (Dtu.ix (i := (q)) Try.underlying38 Try.sizeOf22 (Sl.osl 0 rfl) (lk rfl) (lk rfl) (by omega) (by omega)) rfl ?_
          refine AB.gd 8 rfl (by decide +kernel) rfl rfl rfl rfl (Det.ld Try.isAgg22 (lk rfl) (Rd.sl (Sl.osl 0 rfl) (gm (by omega)))) rfl ?_
          refine AB.gu 9 rfl (by decide +kernel) rfl rfl rfl (Dtu.mv (lk rfl)) rfl ?_
          refine AB.gu 10 rfl (by decide +kernel) rfl rfl rfl (Dtu.nilck (lk rfl)) rfl ?_
          refine AB.gu 11 rfl (by decide +kernel) rfl rfl rfl (Dtu.fld fa48_1 (lk rfl)) rfl ?_
          refine AB.gd 12 rfl (by decide +kernel) rfl rfl rfl rfl (Det.ld Try.isAgg46 (lk rfl) (Rd.env (own_at hA rfl))) rfl ?_
          refine AB.gu 13 rfl (by decide +kernel) rfl rfl rfl (Dtu.mv (lk rfl)) rfl ?_
          refine AB.gu 14 rfl (by decide +kernel) rfl rfl rfl (Dtu.ix (i := (i)) Try.underlying46 Try.sizeOf44 (Sl.up hs) (lk rfl) (lk rfl) (by omega) (by omega)) rfl ?_
          refine AB.gu 15 rfl (by decide +kernel) rfl rfl rfl (Dtu.fld fa44_0 (lk rfl)) rfl ?_
          refine AB.gd 16 rfl (by decide +kernel) rfl rfl rfl rfl (Det.ld Try.isAgg22 (lk rfl) (Rd.sl2 (Sl.up hs) (gfe (sz := 4) (fun _ => rfl) (by omega) rfl))) rfl ?_
          refine AB.gu 17 rfl (by decide +kernel) rfl rfl rfl (Dtu.eql (lk rfl) (lk rfl)) rfl ?_
          refine AB.u 18 rfl (by decide +kernel) (Dtu.pickT (lk rfl) (lk rfl)) rfl ?_
          refine AB.done (by decide +kernel) ?_
          refine Then.next ?_
          refine Body.condP (lk rfl) (fun hy => absurd hy (by first | omega | assumption | decide)) (fun _ => ?_)
          refine Body.skip ?_
          refine Then.next ?_
          refine Body.seq ?_
          refine Body.region ?_
          refine Ops.u (Dtu.asg (lk rfl)) rfl ?_
          refine Ops.nil ?_
          refine Then.next ?_
          refine Body.seq ?_
          refine Body.region ?_
          refine Ops.u (Dtu.mv (lk rfl)) rfl ?_
          refine Ops.u (Dtu.mv (lk rfl)) rfl ?_
          refine Ops.u (Dtu.mv (lk rfl)) rfl ?_
          refine Ops.u (Dtu.slH (q) Try.underlying38 Try.sizeOf22 (Sl.osl 0 rfl) (lk rfl) (lk rfl) (by omega) (by omega)) rfl ?_
          refine Ops.s (Stp.appendNew Try.underlying38 ty22 rfl (lk rfl) (lk rfl) (Sl.subM (Sl.osl 0 rfl) _ _ (by omega) (by omega)) (by first | rfl | exact all_map (fun _ => rfl) _ | exact all_flat (fun _ => rfl) _ | exact all_one (by assumption)) (by omega) (by omega) (fun v60 => ?_)) rfl
          refine Ops.u (Dtu.asg (lk rfl)) rfl ?_
          refine Ops.nil ?_
          refine Then.next ?_
          refine Body.seq ?_
          refine Body.region ?_
          refine Ops.u (Dtu.mv (lk rfl)) rfl ?_
          refine Ops.u (Dtu.mv (lk rfl)) rfl ?_
          refine Ops.u (Dtu.nilck (lk rfl)) rfl ?_
          refine Ops.u (Dtu.fld fa48_1 (lk rfl)) rfl ?_
          refine Ops.d (Det.ld Try.isAgg46 (lk rfl) (Rd.env (own_at hA rfl))) rfl ?_
          refine Ops.u (Dtu.mv (lk rfl)) rfl ?_
          refine Ops.u (Dtu.ix (i := (i)) Try.underlying46 Try.sizeOf44 (Sl.up hs) (lk rfl) (lk rfl) (by omega) (by omega)) rfl ?_
          refine Ops.u (Dtu.fld fa44_0 (lk rfl)) rfl ?_
          refine Ops.d (Det.ld Try.isAgg22 (lk rfl) (Rd.sl2 (Sl.up hs) (gfe (sz := 4) (fun _ => rfl) (by omega) rfl))) rfl ?_
          refine Ops.s (Stp.buildSliceO Try.underlying38 ty22 (by decide) (by decide) (lkp rfl) rfl rfl rfl (by decide) (fun v70 => ?_)) rfl
          refine Ops.s (Stp.append 1 Try.underlying38 ty22 rfl rfl (lk rfl) (lk rfl) (Sl.osl 0 rfl) (by first | rfl | exact all_map (fun _ => rfl) _ | exact all_flat (fun _ => rfl) _ | exact all_one (by assumption)) (by omega) (by omega) (fun v71 => ?_)) rfl
          refine Ops.u (Dtu.asg (lk rfl)) rfl ?_
          refine Ops.nil ?_
          refine Then.next ?_
          refine Body.region ?_
          refine Ops.u (Dtu.mv (lk rfl)) rfl ?_
          refine Ops.u (Dtu.mv (lk rfl)) rfl ?_
          refine Ops.u (Dtu.mv (lk rfl)) rfl ?_
          refine Ops.u (Dtu.slL (q) Try.underlying38 Try.sizeOf22 (Sl.osl 2 rfl) (lk rfl) (lk rfl) (by omega) (by omega)) rfl ?_
          refine Ops.s (Stp.append 1 Try.underlying38 ty22 rfl rfl (lk rfl) (lk rfl) (Sl.subM (Sl.osl 2 rfl) _ _ (by omega) (by omega)) (by first | rfl | exact all_map (fun _ => rfl) _ | exact all_flat (fun _ => rfl) _ | exact all_one (by assumption)) (by omega) (by omega) (fun v76 => ?_)) rfl
          refine Ops.u (Dtu.asg (lk rfl)) rfl ?_
          refine Ops.nil ?_
          refine Blk.norm ?_
          refine Then.next ?_
          refine Body.region ?_
          refine Ops.u (Dtu.mv (lk rfl)) rfl ?_
          refine Ops.u (Dtu.add (lk rfl) (lk rfl) (w64 (by omega) (by omega))) rfl ?_
          refine Ops.u (Dtu.asg (lk rfl)) rfl ?_
          refine Ops.nil ?_
          refine Round.goL [1] (i + 1, ws.take q ++ L[i]!.id :: ws.drop q, v76) rfl ⟨rfl, rfl, trivial⟩ rfl (by (try dsimp only); rw [ins_map, ins_len ha]) ⟨hli, by dsimp only; rw [ins_len ha]; omega, ins_ok ha hb (fun _ => by omega) hws, fun x => by rw [take_ids hli, ins_mem, hwm]⟩ (by dsimp only; omega)
    · refine Body.seq ?_
      refine Body.seq ?_
      refine Body.draw mixed ?_
      refine AB.u 0 rfl (by decide +kernel) (Dtu.mv (lk rfl)) rfl ?_
      refine AB.u 1 rfl (by decide +kernel) (Dtu.mv (lk rfl)) rfl ?_
      refine AB.u 2 rfl (by decide +kernel) (Dtu.lenS Try.underlying38 (Sl.osl 0 rfl) (lk rfl)) rfl ?_
      refine AB.u 3 rfl (by decide +kernel) (Dtu.lss (lk rfl) (lk rfl)) rfl ?_
      refine AB.u 4 rfl (by decide +kernel) (Dtu.mv (lk rfl)) rfl ?_
      refine AB.decP 20 rfl (fun hy => absurd hy (by first | omega | assumption | decide)) (fun _ => ?_)
      refine AB.gn 5 rfl (by decide +kernel) rfl rfl rfl rfl rfl ?_
      refine AB.gn 6 rfl (by decide +kernel) rfl rfl rfl rfl rfl ?_
      refine AB.gn 7 rfl (by decide +kernel) rfl rfl rfl rfl rfl ?_
      refine AB.gn 8 rfl (by decide +kernel) rfl rfl rfl rfl rfl ?_
      refine AB.gn 9 rfl (by decide +kernel) rfl rfl rfl rfl rfl ?_
      refine AB.gn 10 rfl (by decide +kernel) rfl rfl rfl rfl rfl ?_
      refine AB.gn 11 rfl (by decide +kernel) rfl rfl rfl rfl rfl ?_
      refine AB.gn 12 rfl (by decide +kernel) rfl rfl rfl rfl rfl ?_
      refine AB.gn 13 rfl (by decide +kernel) rfl rfl rfl rfl rfl ?_
      refine AB.gn 14 rfl (by decide +kernel) rfl rfl rfl rfl rfl ?_
      refine AB.gn 15 rfl (by decide +kernel) rfl rfl rfl rfl rfl ?_
      refine AB.gn 16 rfl (by decide +kernel) rfl rfl rfl rfl rfl ?_
      refine AB.gn 17 rfl (by decide +kernel) rfl rfl rfl rfl rfl ?_
      refine AB.u 18 rfl (by decide +kernel) (Dtu.pickF (lk rfl) (lk rfl)) rfl ?_
      refine AB.done (by decide +kernel) ?_
      refine Then.next ?_
      refine Body.condF (lk rfl) ?_
      refine Body.exit ?_
      refine Then.exit ?_
      refine Round.exit ?_
      refine Blk.here ?_
      refine Then.next ?_
      refine Body.seq ?_
      refine Body.seq ?_
      refine Body.draw mixed ?_
      refine AB.u 0 rfl (by decide +kernel) (Dtu.mv (lk rfl)) rfl ?_
      refine AB.u 1 rfl (by decide +kernel) (Dtu.mv (lk rfl)) rfl ?_
      refine AB.u 2 rfl (by decide +kernel) (Dtu.lenS Try.underlying38 (Sl.osl 0 rfl) (lk rfl)) rfl ?_
      refine AB.u 3 rfl (by decide +kernel) (Dtu.lss (lk rfl) (lk rfl)) rfl ?_
      refine AB.u 4 rfl (by decide +kernel) (Dtu.mv (lk rfl)) rfl ?_
      refine AB.decP 41 rfl (fun hy => absurd hy (by first | omega | assumption | decide)) (fun _ => ?_)
      refine AB.gn 5 rfl (by decide +kernel) rfl rfl rfl rfl rfl ?_
      refine AB.gn 6 rfl (by decide +kernel) rfl rfl rfl rfl rfl ?_
      refine AB.gn 7 rfl (by decide +kernel) rfl rfl rfl rfl rfl ?_
      refine AB.gn 8 rfl (by decide +kernel) rfl rfl rfl rfl rfl ?_
      refine AB.gn 9 rfl (by decide +kernel) rfl rfl rfl rfl rfl ?_
      refine AB.gn 10 rfl (by decide +kernel) rfl rfl rfl rfl rfl ?_
      refine AB.gn 11 rfl (by decide +kernel) rfl rfl rfl rfl rfl ?_
      refine AB.gn 12 rfl (by decide +kernel) rfl rfl rfl rfl rfl ?_
      refine AB.gn 13 rfl (by decide +kernel) rfl rfl rfl rfl rfl ?_
      refine AB.gn 14 rfl (by decide +kernel) rfl rfl rfl rfl rfl ?_
      refine AB.gn 15 rfl (by decide +kernel) rfl rfl rfl rfl rfl ?_
      refine AB.gn 16 rfl (by decide +kernel) rfl rfl rfl rfl rfl ?_
      refine AB.gn 17 rfl (by decide +kernel) rfl rfl rfl rfl rfl ?_
      refine AB.u 18 rfl (by decide +kernel) (Dtu.pickF (lk rfl) (lk rfl)) rfl ?_
      refine AB.done (by decide +kernel) ?_
      refine Then.next ?_
      refine Body.condF (lk rfl) ?_
      refine Body.skip ?_
      refine Then.next ?_
      refine Body.seq ?_
      refine Body.region ?_
      refine Ops.u (Dtu.asg (lk rfl)) rfl ?_
      refine Ops.nil ?_
      refine Then.next ?_
      refine Body.seq ?_
      refine Body.region ?_
      refine Ops.u (Dtu.mv (lk rfl)) rfl ?_
      refine Ops.u (Dtu.mv (lk rfl)) rfl ?_
      refine Ops.u (Dtu.mv (lk rfl)) rfl ?_
      refine Ops.u (Dtu.slH (q) Try.underlying38 Try.sizeOf22 (Sl.osl 0 rfl) (lk rfl) (lk rfl) (by omega) (by omega)) rfl ?_
      refine Ops.s (Stp.appendNew Try.underlying38 ty22 rfl (lk rfl) (lk rfl) (Sl.subM (Sl.osl 0 rfl) _ _ (by omega) (by omega)) (by first | rfl | exact all_map (fun _ => rfl) _ | exact all_flat (fun _ => rfl) _ | exact all_one (by assumption)) (by omega) (by omega) (fun v60 => ?_)) rfl
      refine Ops.u (Dtu.asg (lk rfl)) rfl ?_
      refine Ops.nil ?_
      refine Then.next ?_
      refine Body.seq ?_
      refine Body.region ?_
      refine Ops.u (Dtu.mv (lk rfl)) rfl ?_
      refine Ops.u (Dtu.mv (lk rfl)) rfl ?_
      refine Ops.u (Dtu.nilck (lk rfl)) rfl ?_
      refine Ops.u (Dtu.fld fa48_1 (lk rfl)) rfl ?_
      refine Ops.d (Det.ld Try.isAgg46 (lk rfl) (Rd.env (own_at hA rfl))) rfl ?_
      refine Ops.u (Dtu.mv (lk rfl)) rfl ?_
      refine Ops.u (Dtu.ix (i := (i)) Try.underlying46 Try.sizeOf44 (Sl.up hs) (lk rfl) (lk rfl) (by omega) (by omega)) rfl ?_
      refine Ops.u (Dtu.fld fa44_0 (lk rfl)) rfl ?_
      refine Ops.d (Det.ld Try.isAgg22 (lk rfl) (Rd.sl2 (Sl.up hs) (gfe (sz := 4) (fun _ => rfl) (by omega) rfl))) rfl ?_
      refine Ops.s (Stp.buildSliceO Try.underlying38 ty22 (by decide) (by decide) (lkp rfl) rfl rfl rfl (by decide) (fun v70 => ?_)) rfl
      refine Ops.s (Stp.append 1 Try.underlying38 ty22 rfl rfl (lk rfl) (lk rfl) (Sl.osl 0 rfl) (by first | rfl | exact all_map (fun _ => rfl) _ | exact all_flat (fun _ => rfl) _ | exact all_one (by assumption)) (by omega) (by omega) (fun v71 => ?_)) rfl
      refine Ops.u (Dtu.asg (lk rfl)) rfl ?_
      refine Ops.nil ?_
      refine Then.next ?_
      refine Body.region ?_
      refine Ops.u (Dtu.mv (lk rfl)) rfl ?_
      refine Ops.u (Dtu.mv (lk rfl)) rfl ?_
      refine Ops.u (Dtu.mv (lk rfl)) rfl ?_
      refine Ops.u (Dtu.slL (q) Try.underlying38 Try.sizeOf22 (Sl.osl 2 rfl) (lk rfl) (lk rfl) (by omega) (by omega)) rfl ?_
      refine Ops.s (Stp.append 1 Try.underlying38 ty22 rfl rfl (lk rfl) (lk rfl) (Sl.subM (Sl.osl 2 rfl) _ _ (by omega) (by omega)) (by first | rfl | exact all_map (fun _ => rfl) _ | exact all_flat (fun _ => rfl) _ | exact all_one (by assumption)) (by omega) (by omega) (fun v76 => ?_)) rfl
      refine Ops.u (Dtu.asg (lk rfl)) rfl ?_
      refine Ops.nil ?_
      refine Blk.norm ?_
      refine Then.next ?_
      refine Body.region ?_
      refine Ops.u (Dtu.mv (lk rfl)) rfl ?_
      refine Ops.u (Dtu.add (lk rfl) (lk rfl) (w64 (by omega) (by omega))) rfl ?_
      refine Ops.u (Dtu.asg (lk rfl)) rfl ?_
      refine Ops.nil ?_
      refine Round.goL [1] (i + 1, ws.take q ++ L[i]!.id :: ws.drop q, v76) rfl ⟨rfl, rfl, trivial⟩ rfl (by (try dsimp only); rw [ins_map, ins_len ha]) ⟨hli, by dsimp only; rw [ins_len ha]; omega, ins_ok ha hb (fun h => by omega) hws, fun x => by rw [take_ids hli, ins_mem, hwm]⟩ (by dsimp only; omega)
  · have hi' : i = L.length := by omega
    have hta : L.take i = L := by rw [hi', List.take_length]
    rw [hta] at hwm
    refine Body.seq ?_
    refine Body.seq ?_
    refine Body.region ?_
    refine Ops.u (Dtu.mv (lk rfl)) rfl ?_
    refine Ops.u (Dtu.mv (lk rfl)) rfl ?_
    refine Ops.u (Dtu.nilck (lk rfl)) rfl ?_
    refine Ops.u (Dtu.fld fa48_1 (lk rfl)) rfl ?_
    refine Ops.d (Det.ld Try.isAgg46 (lk rfl) (Rd.env (own_at hA rfl))) rfl ?_
    refine Ops.u (Dtu.lenS Try.underlying46 (Sl.up hs) (lk rfl)) rfl ?_
    refine Ops.u (Dtu.lss (lk rfl) (lk rfl)) rfl ?_
    refine Ops.nil ?_
    refine Then.next ?_
    refine Body.condP (lk rfl) (fun hy => absurd hy (by first | omega | assumption | decide)) (fun _ => ?_)
    refine Body.exit ?_
    refine Then.exit ?_
    refine Round.exit ?_
    refine Blk.here ?_
    refine Then.next ?_
    refine Body.seq ?_
    refine Body.region ?_
    refine Ops.u (Dtu.mv (lk rfl)) rfl ?_
    refine Ops.u (Dtu.asg (lk rfl)) rfl ?_
    refine Ops.nil ?_
    refine Then.next ?_
    refine Body.ret ?_
    exact ⟨.inr rfl, _, pk [0] rfl, ⟨_, rfl, hws, hwm⟩⟩
end Go.Proofs.Ytagcpamchgpgiaa
end
section
/- A table, and the document's list of parts: the plain law. -/
namespace Go.Proofs.Ytagcpamchgpgiaa
set_option maxRecDepth 100000
set_option maxHeartbeats 4000000
set_option linter.unusedVariables false
set_option linter.unusedSimpArgs false
open Go.Sx
/-- these parts are what this table has -/
structure R10m (T : Tb) (L : List Prt) : Prop where
  ok : T.Ok
  to : ∀ p ∈ L, p.Ok ∧ ∃ F ∈ T.fs, F.id = p.id ∧ (F.cnt : Int) = p.ct ∧ F.got[p.ix.toNat]? = some (some p.d)
  fr : ∀ F ∈ T.fs, ∀ (i : Nat) (d : List Int), F.got[i]? = some (some d) → ∃ p ∈ L, p.id = F.id ∧ p.ix = (i : Int)
  un : L.Pairwise fun p q => p.id ≠ q.id ∨ p.ix ≠ q.ix
structure R10 (T : Tb) (L : List Prt) : Prop where
  m : R10m T L
  ne : ∀ F ∈ T.fs, ∃ p ∈ L, p.id = F.id
theorem R10.nil : R10 ⟨1, []⟩ [] := ⟨⟨tb0_ok, by simp, by simp, List.Pairwise.nil⟩, by simp⟩
theorem fs_inj {T : Tb} (h : T.Ok) {F G : FR} (hF : F ∈ T.fs) (hG : G ∈ T.fs) (he : F.id = G.id) : F = G := by
  have hn := h.nd
  generalize T.fs = l at *
  induction l with
  | nil => cases hF
  | cons a l ih =>
    rw [List.map_cons, List.nodup_cons] at hn
    rcases List.mem_cons.1 hF with h1 | h1
    · rcases List.mem_cons.1 hG with h2 | h2
      · rw [h1, h2]
      · exact absurd (show a.id ∈ l.map FR.id by rw [← h1, he]; exact List.mem_map_of_mem h2) hn.1
    · rcases List.mem_cons.1 hG with h2 | h2
      · exact absurd (show a.id ∈ l.map FR.id by rw [← h2, ← he]; exact List.mem_map_of_mem h1) hn.1
      · exact ih h1 h2 hn.2
theorem partsAt_yes {T : Tb} {L : List Prt} (h : R10m T L) {F : FR} (hF : F ∈ T.fs) {k : Nat} {d : List Int} (hk : F.got[k]? = some (some d)) : ∃ p, partsAt L F.id k = [p] ∧ p ∈ L ∧ p.id = F.id ∧ p.ix = (k : Int) ∧ p.ct = (F.cnt : Int) ∧ p.d = d ∧ p.Ok := by
  obtain ⟨p, hp, h1, h2⟩ := h.fr F hF k d hk
  obtain ⟨h3, G, hG, g1, g2, g3⟩ := h.to p hp
  obtain rfl : G = F := fs_inj h.ok hG hF (g1.trans h1)
  rw [h2, Int.toNat_natCast, hk] at g3
  have hd : d = p.d := Option.some.inj (Option.some.inj g3)
  refine ⟨p, ?_, hp, h1, h2, g2.symm, hd.symm, h3⟩
  have hm : p ∈ partsAt L G.id k := List.mem_filter.2 ⟨hp, decide_eq_true ⟨h1, h2⟩⟩
  have hpw : (partsAt L G.id k).Pairwise fun p q => p.id ≠ q.id ∨ p.ix ≠ q.ix := h.un.sublist List.filter_sublist
  have hall : ∀ q ∈ partsAt L G.id k, q.id = G.id ∧ q.ix = (k : Int) := fun q hq => of_decide_eq_true (List.mem_filter.1 hq).2
  generalize partsAt L G.id k = l at *
  match l, hm, hpw, hall with
  | [q], hm, _, _ => rw [List.mem_singleton.1 hm]
  | q :: q2 :: l, _, hpw, hall =>
    have := (List.pairwise_cons.1 hpw).1 q2 (.head _)
    have a1 := hall q (.head _)
    have a2 := hall q2 (.tail _ (.head _))
    rcases this with h | h
    · exact absurd (a1.1.trans a2.1.symm) h
    · exact absurd (a1.2.trans a2.2.symm) h
theorem partsAt_no {T : Tb} {L : List Prt} (h : R10m T L) {F : FR} (hF : F ∈ T.fs) {k : Nat} (hk : ∀ d, F.got[k]? ≠ some (some d)) : partsAt L F.id k = [] := by
  rw [partsAt, List.filter_eq_nil_iff]
  intro p hp hc
  obtain ⟨c1, c2⟩ := of_decide_eq_true hc
  obtain ⟨h3, G, hG, g1, g2, g3⟩ := h.to p hp
  obtain rfl : G = F := fs_inj h.ok hG hF (g1.trans c1)
  rw [c2, Int.toNat_natCast] at g3
  exact hk _ g3
theorem partsAt_none {T : Tb} {L : List Prt} (h : R10m T L) {id : Nat} (hn : ∀ F ∈ T.fs, F.id ≠ id) : partsS L id = [] := by
  rw [partsS, List.flatMap_eq_nil_iff]
  intro k _
  rw [partsAt, List.filter_eq_nil_iff]
  intro p hp hc
  obtain ⟨c1, c2⟩ := of_decide_eq_true hc
  obtain ⟨h3, G, hG, g1, g2, g3⟩ := h.to p hp
  exact hn G hG (g1.trans c1)
theorem parts_cnt {T : Tb} {L : List Prt} (h : R10m T L) {F : FR} (hF : F ∈ T.fs) : ∀ n, n ≤ 64 → ((List.range n).flatMap fun k => partsAt L F.id k).length = (F.got.take n).countP Option.isSome
  | 0, _ => by simp
  | n + 1, hn => by
    have hl := (h.ok.ok F hF).len
    rw [List.range_succ, List.flatMap_append, List.length_append, parts_cnt h hF n (by omega), List.take_succ_eq_append_getElem (by omega), List.countP_append]
    congr 1
    simp only [List.flatMap_cons, List.flatMap_nil, List.append_nil]
    cases hc : F.got[n]'(by omega) with
    | none => rw [partsAt_no h hF (k := n) (fun d => by rw [List.getElem?_eq_getElem (by omega), hc]; simp)]; rfl
    | some d =>
      obtain ⟨p, hp, _⟩ := partsAt_yes h hF (k := n) (d := d) (by rw [List.getElem?_eq_getElem (by omega), hc])
      rw [hp]; rfl
theorem parts_len {T : Tb} {L : List Prt} (h : R10m T L) {F : FR} (hF : F ∈ T.fs) : (partsS L F.id).length = F.got.countP Option.isSome := by
  have := parts_cnt h hF 64 (Nat.le_refl _)
  rw [List.take_of_length_le (by rw [(h.ok.ok F hF).len]; exact Nat.le_refl _)] at this
  exact this
theorem parts_all {T : Tb} {L : List Prt} (h : R10m T L) {F : FR} (hF : F ∈ T.fs) {q : Prt} (hq : q ∈ partsS L F.id) : q ∈ L ∧ q.id = F.id ∧ q.ct = (F.cnt : Int) ∧ q.Ok ∧ (F.got[q.ix.toNat]!).isSome = true := by
  obtain ⟨h1, h2⟩ := partsS_mem hq
  obtain ⟨h3, G, hG, g1, g2, g3⟩ := h.to q h1
  obtain rfl : G = F := fs_inj h.ok hG hF (g1.trans h2)
  refine ⟨h1, h2, g2.symm, h3, ?_⟩
  have hl := (List.getElem?_eq_some_iff.1 g3).1
  rw [getElem!_pos G.got _ hl]
  rw [List.getElem?_eq_getElem hl] at g3
  rw [Option.some.inj g3]; rfl
theorem parts_has {T : Tb} {L : List Prt} (h : R10m T L) {F : FR} (hF : F ∈ T.fs) {i : Nat} (hi : i < 64) (hs : (F.got[i]!).isSome = true) : ∃ q ∈ partsS L F.id, q.ix = (i : Int) := by
  have hl := (h.ok.ok F hF).len
  rw [getElem!_pos F.got i (by omega)] at hs
  obtain ⟨d, hd⟩ := Option.isSome_iff_exists.1 hs
  obtain ⟨p, hp, h1, h2, h3, _⟩ := partsAt_yes h hF (k := i) (d := d) (by rw [List.getElem?_eq_getElem (by omega), hd])
  exact ⟨p, List.mem_flatMap.2 ⟨i, List.mem_range.2 hi, by rw [hp]; exact .head _⟩, h3⟩
theorem parts_upto {T : Tb} {L : List Prt} (h : R10m T L) {F : FR} (hF : F ∈ T.fs) (h0 : F.left = 0) : ∀ n, n ≤ F.cnt →
    ((List.range n).flatMap fun k => partsAt L F.id k).length = n ∧ (∀ k, k < n → ((List.range n).flatMap fun k => partsAt L F.id k)[k]!.ix = (k : Int)) ∧ ((List.range n).flatMap fun k => partsAt L F.id k).flatMap Prt.d = (F.got.take n).flatMap fun o => o.getD []
  | 0, _ => by simp
  | n + 1, hn => by
    have hFok := h.ok.ok F hF
    have hl := hFok.len
    have hc1 := hFok.c1
    obtain ⟨i1, i2, i3⟩ := parts_upto h hF h0 n (by omega)
    obtain ⟨d, hd⟩ := F.all_came hFok h0 n (by omega)
    obtain ⟨p, hp, p1, p2, p3, p4, p5, p6⟩ := partsAt_yes h hF hd
    rw [List.range_succ, List.flatMap_append]
    simp only [List.flatMap_cons, List.flatMap_nil, List.append_nil, hp]
    refine ⟨by rw [List.length_append, i1]; rfl, fun k hk => ?_, ?_⟩
    · by_cases h : k < n
      · have := i2 k h
        rw [getElem!_pos _ k (by omega)] at this
        rw [getElem!_pos _ k (by rw [List.length_append, i1]; simp; omega), List.getElem_append_left (by omega)]
        exact this
      · obtain rfl : k = n := by omega
        rw [getElem!_pos _ k (by rw [List.length_append, i1]; simp), List.getElem_append_right (by omega)]
        simp [i1, p3]
    · rw [List.flatMap_append, i3, List.take_succ_eq_append_getElem (by omega), List.flatMap_append]
      congr 1
      rw [List.getElem?_eq_getElem (by omega)] at hd
      rw [Option.some.inj hd]
      simp [p5]
theorem parts_whole {T : Tb} {L : List Prt} (h : R10m T L) {F : FR} (hF : F ∈ T.fs) (h0 : F.left = 0) : JoinOk (partsS L F.id) ∧ (partsS L F.id).length = F.cnt ∧ (partsS L F.id).flatMap Prt.d = F.frame := by
  have hFok := h.ok.ok F hF
  have hc1 := hFok.c1
  have hc0 := hFok.c0
  obtain ⟨i1, i2, i3⟩ := parts_upto h hF h0 F.cnt (Nat.le_refl _)
  have e : partsS L F.id = (List.range F.cnt).flatMap fun k => partsAt L F.id k := by
    obtain ⟨m, hm⟩ : ∃ m, 64 = F.cnt + m := ⟨64 - F.cnt, by omega⟩
    have : ∀ m, F.cnt + m ≤ 64 → ((List.range (F.cnt + m)).flatMap fun k => partsAt L F.id k) = (List.range F.cnt).flatMap fun k => partsAt L F.id k := fun m => by
      induction m with
      | zero => intro _; rfl
      | succ m ih =>
        intro hm
        rw [show F.cnt + (m + 1) = (F.cnt + m) + 1 by omega, List.range_succ, List.flatMap_append, ih (by omega)]
        simp only [List.flatMap_cons, List.flatMap_nil, List.append_nil]
        rw [partsAt_no h hF (fun d hd => by have := (hFok.g _ d hd).1; omega), List.append_nil]
    rw [partsS, hm]
    exact this m (by omega)
  rw [e]
  have hall : ∀ k, k < F.cnt → ((List.range F.cnt).flatMap fun k => partsAt L F.id k)[k]! ∈ partsS L F.id := fun k hk => by rw [e, getElem!_pos _ k (by omega)]; exact List.getElem_mem _
  refine ⟨fun k hk => ?_, i1, i3⟩
  rw [i1] at hk
  obtain ⟨q1, q2, q3, q4, _⟩ := parts_all h hF (hall k hk)
  obtain ⟨r1, r2, r3, r4, _⟩ := parts_all h hF (hall 0 (by omega))
  exact ⟨q4, q2.trans r2.symm, by rw [i1]; exact q3, i2 k hk⟩
theorem waits_R {T : Tb} {L : List Prt} (h : R10 T L) {ws : List Nat} (h1 : ws.Pairwise (· < ·)) (h2 : ∀ x, x ∈ ws ↔ ∃ p ∈ L, p.id = x) : ws = T.waits := by
  have hm : ∀ x, x ∈ ws ↔ x ∈ T.fs.map FR.id := fun x => by
    rw [h2, List.mem_map]
    constructor
    · rintro ⟨p, hp, rfl⟩
      obtain ⟨_, F, hF, g, _⟩ := h.m.to p hp
      exact ⟨F, hF, g⟩
    · rintro ⟨F, hF, rfl⟩
      exact h.ne F hF
  have hn : ws.Nodup := h1.imp (fun {a b} h => Nat.ne_of_lt h)
  have hp : ws.Perm (T.fs.map FR.id) := (List.perm_ext_iff_of_nodup hn h.m.ok.nd).2 hm
  exact sort_uniq hp (h1.imp fun {a b} h => Nat.le_of_lt h)
theorem R10.raise {T : Tb} {L : List Prt} (h : R10 T L) {fl : Nat} (h1 : T.floor ≤ fl) (h2 : fl ≤ 4611686018427387904) : R10 (T.raise fl) (L.filter fun p => decide (fl ≤ p.id)) := by
  refine ⟨⟨h.m.ok.raise h1 h2, fun p hp => ?_, fun F hF i d hd => ?_, h.m.un.sublist List.filter_sublist⟩, fun F hF => ?_⟩
  · obtain ⟨hp1, hp2⟩ := List.mem_filter.1 hp
    obtain ⟨q1, F, hF, g1, g2, g3⟩ := h.m.to p hp1
    exact ⟨q1, F, List.mem_filter.2 ⟨hF, by rw [g1]; exact hp2⟩, g1, g2, g3⟩
  · obtain ⟨hF1, hF2⟩ := List.mem_filter.1 hF
    obtain ⟨p, hp, g1, g2⟩ := h.m.fr F hF1 i d hd
    exact ⟨p, List.mem_filter.2 ⟨hp, by rw [g1]; exact hF2⟩, g1, g2⟩
  · obtain ⟨hF1, hF2⟩ := List.mem_filter.1 hF
    obtain ⟨p, hp, g1⟩ := h.ne F hF1
    exact ⟨p, List.mem_filter.2 ⟨hp, by rw [g1]; exact hF2⟩, g1⟩
theorem R10m.add {T : Tb} {L : List Prt} (h : R10m T L) {id c : Nat} (hok : (T.add (FR.new id c)).Ok) : R10m (T.add (FR.new id c)) L := by
  refine ⟨hok, fun p hp => ?_, fun F hF i d hd => ?_, h.un⟩
  · obtain ⟨q1, F, hF, g⟩ := h.to p hp
    exact ⟨q1, F, List.mem_append_left _ hF, g⟩
  · rcases List.mem_append.1 hF with hF | hF
    · exact h.fr F hF i d hd
    · rw [List.mem_singleton.1 hF] at hd
      have hd : (List.replicate 64 (none : Option (List Int)))[i]? = some (some d) := hd
      rw [List.getElem?_replicate] at hd
      split at hd <;> simp at hd
/-- a part more -/
theorem R10m.put {T : Tb} {L : List Prt} (h : R10m T L) {A C : List FR} {F : FR} {p q : Prt} (hfs : T.fs = A ++ F :: C) (hok : p.Ok) (hid : F.id = p.id) (hc : (F.cnt : Int) = p.ct) (hg : F.got[p.ix.toNat]! = none)
    (hne : ∀ G ∈ T.fs, G.id ≠ F.id → ∃ p ∈ L, p.id = G.id) (q1 : q.id = p.id) (q2 : q.ix = p.ix) (q3 : q.ct = p.ct) (q4 : q.d = p.d) : R10 (T.upd (F.put p.ix.toNat p.d)) (L ++ [q]) := by
  have hFm : F ∈ T.fs := by rw [hfs]; simp
  have hFok := h.ok.ok F hFm
  have hl := hFok.len
  have hx0 := hok.x0
  have hx1 := hok.x1
  have hc1 := hFok.c1
  have hx : p.ix.toNat < 64 := by omega
  have hF' := FR.put_ok hok hFok hc
  obtain ⟨hu1, hu2⟩ := upd_ok hfs h.ok hF' rfl
  have hqok : q.Ok := by rw [Prt.ok_iff, q1, q2, q3, q4, ← Prt.ok_iff]; exact hok
  have hnl : ∀ r ∈ L, r.id = p.id → r.ix ≠ p.ix := fun r hr h1 h2 => by
    obtain ⟨_, G, hG, g1, g2, g3⟩ := h.to r hr
    obtain rfl : G = F := fs_inj h.ok hG hFm (g1.trans (h1.trans hid.symm))
    rw [h2, List.getElem?_eq_getElem (by omega), ← getElem!_pos G.got _ (by omega), hg] at g3
    simp at g3
  have hmem : ∀ G ∈ T.fs, G.id ≠ F.id → G ∈ (T.upd (F.put p.ix.toNat p.d)).fs := fun G hG hi => by
    rw [hu2]
    rw [hfs] at hG
    rcases List.mem_append.1 hG with hG | hG
    · exact List.mem_append_left _ hG
    · rcases List.mem_cons.1 hG with rfl | hG
      · exact absurd rfl hi
      · exact List.mem_append_right _ (.tail _ hG)
  have hself : F.put p.ix.toNat p.d ∈ (T.upd (F.put p.ix.toNat p.d)).fs := by rw [hu2]; simp
  have hback : ∀ G ∈ (T.upd (F.put p.ix.toNat p.d)).fs, G = F.put p.ix.toNat p.d ∨ (G ∈ T.fs ∧ G.id ≠ F.id) := fun G hG => by
    have hn := h.ok.nd
    rw [hfs, List.map_append, List.map_cons, List.nodup_append, List.nodup_cons] at hn
    rw [hu2] at hG
    rcases List.mem_append.1 hG with hG | hG
    · exact .inr ⟨by rw [hfs]; exact List.mem_append_left _ hG, fun he => hn.2.2 _ (List.mem_map_of_mem hG) _ (.head _) he⟩
    · rcases List.mem_cons.1 hG with rfl | hG
      · exact .inl rfl
      · exact .inr ⟨by rw [hfs]; exact List.mem_append_right _ (.tail _ hG), fun he => hn.2.1.1 (by rw [← he]; exact List.mem_map_of_mem hG)⟩
  have hto : ∀ r ∈ L, ∃ G ∈ (T.upd (F.put p.ix.toNat p.d)).fs, G.id = r.id ∧ (G.cnt : Int) = r.ct ∧ G.got[r.ix.toNat]? = some (some r.d) := fun r hr => by
    obtain ⟨hrok, G, hG, g1, g2, g3⟩ := h.to r hr
    by_cases hi : G.id = F.id
    · obtain rfl : G = F := fs_inj h.ok hG hFm hi
      refine ⟨_, hself, g1, g2, ?_⟩
      have hr0 := hrok.x0
      have hne := hnl r hr (g1.symm.trans hid)
      simp only [FR.put, List.getElem?_set]
      rw [if_neg (by omega)]; exact g3
    · exact ⟨G, hmem G hG hi, g1, g2, g3⟩
  refine ⟨⟨hu1, fun r hr => ?_, fun G hG i d hd => ?_, ?_⟩, fun G hG => ?_⟩
  · rcases List.mem_append.1 hr with hr | hr
    · exact ⟨(h.to r hr).1, hto r hr⟩
    · rw [List.mem_singleton.1 hr]
      refine ⟨hqok, _, hself, hid.trans q1.symm, hc.trans q3.symm, ?_⟩
      rw [q2, q4]; exact FR.put_got (by omega)
  · rcases hback G hG with rfl | ⟨hG1, hG2⟩
    · simp only [FR.put, List.getElem?_set] at hd
      split at hd
      · rename_i e
        exact ⟨q, by simp, q1.trans hid.symm, by rw [q2]; omega⟩
      · obtain ⟨r, hr, g1, g2⟩ := h.fr F hFm i d hd
        exact ⟨r, List.mem_append_left _ hr, g1, g2⟩
    · obtain ⟨r, hr, g1, g2⟩ := h.fr G hG1 i d hd
      exact ⟨r, List.mem_append_left _ hr, g1, g2⟩
  · rw [List.pairwise_append]
    refine ⟨h.un, by simp, fun a ha b hb => ?_⟩
    rw [List.mem_singleton.1 hb, q1, q2]
    by_cases hi : a.id = p.id
    · exact .inr (hnl a ha hi)
    · exact .inl hi
  · rcases hback G hG with rfl | ⟨hG1, hG2⟩
    · exact ⟨q, by simp, q1.trans hid.symm⟩
    · obtain ⟨r, hr, g⟩ := hne G hG1 hG2
      exact ⟨r, List.mem_append_left _ hr, g⟩
end Go.Proofs.Ytagcpamchgpgiaa
end
section
/- The document's Put: the walk. -/
namespace Go.Proofs.Ytagcpamchgpgiaa
set_option maxRecDepth 100000
set_option maxHeartbeats 4000000
set_option linter.unusedVariables false
set_option linter.unusedSimpArgs false
open Go.Sx
structure RtR (T : Tb) (n : Nat) (L : List Prt) (M : List HProp) : Prop where
  r : R10 T L
  len : L.length ≤ n
  pool : ∀ p ∈ L, osl 5 1 p.s p.d.length (u8s p.d) ∈ M
  sl : ∀ p ∈ L, IsSl p.s
def rtabP (b n : Nat) (T : Tb) : HProp := fun h => ∃ a m c L M, RtR T n L M ∧ Sat [own b [.int .u64 (T.floor : Nat), .slice a m c] 48, osl 44 4 (.slice a m c) L.length (L.flatMap Prt.enc), many M] h
theorem rtabP_out {E : Env} {b n : Nat} {T : Tb} {H : List HProp} {w : World} (s : St E (rtabP b n T :: H) w) : ∃ a m c L M, RtR T n L M ∧ St E (own b [.int .u64 (T.floor : Nat), .slice a m c] 48 :: osl 44 4 (.slice a m c) L.length (L.flatMap Prt.enc) :: many M :: H) w := by
  obtain ⟨h, ⟨h1, h2, ⟨a, m, c, L, M, hi, s1'⟩, s2, d, rfl⟩, dE, lh⟩ := s.has
  exact ⟨a, m, c, L, M, hi, ⟨⟨_, (Sat.append (H := [_, _, _])).2 ⟨h1, h2, s1', s2, d, rfl⟩, dE, lh⟩, s.keep, s.os, s.tape, s.output⟩⟩
theorem rtabP_in {E : Env} {b n : Nat} {T : Tb} {a : Option Addr} {m c : Nat} {L : List Prt} {M H : List HProp} {w : World} (hi : RtR T n L M) (s : St E (own b [.int .u64 (T.floor : Nat), .slice a m c] 48 :: osl 44 4 (.slice a m c) L.length (L.flatMap Prt.enc) :: many M :: H) w) : St E (rtabP b n T :: H) w := by
  obtain ⟨h, s0, dE, lh⟩ := s.has
  obtain ⟨h1, h2, s1, s2, d, rfl⟩ := (Sat.append (H := [_, _, _])).1 s0
  exact ⟨⟨_, ⟨h1, h2, ⟨a, m, c, L, M, hi, s1⟩, s2, d, rfl⟩, dE, lh⟩, s.keep, s.os, s.tape, s.output⟩
theorem Does.rtab {P : Program} {g : FuncId} {args : Array Value} {E : Env} {b n : Nat} {T : Tb} {H : List HProp} {Q : Value → List HProp → Prop}
    (h : ∀ a m c L M, RtR T n L M → Does P g args E (own b [.int .u64 (T.floor : Nat), .slice a m c] 48 :: osl 44 4 (.slice a m c) L.length (L.flatMap Prt.enc) :: many M :: H) Q) : Does P g args E (rtabP b n T :: H) Q :=
  fun w s => let ⟨a, m, c, L, M, hi, s2⟩ := rtabP_out s; h a m c L M hi w s2
theorem rnew_ok (E : Env) : Does Try.prog 15 #[] E ([]) fun r H' => ∃ b, r = .pointer (some ⟨b, 0, none⟩) ∧ H' = [rtabP b 0 ⟨1, []⟩] := by
  refine Does.post (Q := fun r H' => ∃ b, r = .pointer (some ⟨b, 0, none⟩) ∧ H' = [own b [.int .u64 1, .slice none 0 0] 48]) ?_ ?_
  · refine Does.go _ _ Try.func15 rfl Try.ntmps15 rfl rfl ?_
    skip
    refine Body.seq ?_
    refine Body.region ?_
    refine Ops.u (Dtu.asg (lk rfl)) rfl ?_
    refine Ops.nil ?_
    refine Then.next ?_
    refine Body.seq ?_
    refine Body.region ?_
    refine Ops.u (Dtu.build ty48 pl48 (lkp rfl) rfl rfl) rfl ?_
    refine Ops.s (Stp.box (lk rfl) rfl (fun b2 => ?_)) rfl
    refine Ops.u (Dtu.asg (lk rfl)) rfl ?_
    refine Ops.nil ?_
    refine Then.next ?_
    refine Body.ret ?_
    exact ⟨.inr rfl, _, pk [0] rfl, ⟨_, rfl, rfl⟩⟩
  · rintro _ _ ⟨b, rfl, rfl⟩
    refine ⟨_, fun w s => ?_, b, rfl, rfl⟩
    refine rtabP_in (a := none) (m := 0) (c := 0) (L := []) (M := []) ⟨R10.nil, Nat.le_refl _, by simp, by simp⟩ ?_
    have s1 : St E (many [] :: osl 44 4 (.slice none 0 0) 0 [] :: _) w := many_nil (osl_nil s)
    exact s1.perm (List.reverse_perm [_, _, _]).symm
theorem rwaits_u (E : Env) (b n : Nat) (T : Tb) (a : Option Addr) (m c : Nat) (L : List Prt) (M : List HProp) (h1 : At (own b [.int .u64 (T.floor : Nat), .slice a m c] 48) E) (h2 : Sl E [] 4 (.slice a m c) L.length (L.flatMap Prt.enc)) (hR : RtR T n L M) (hn : n ≤ 900) : Does Try.prog 18 #[.pointer (some ⟨b, 0, none⟩)] E ([]) fun r H' => H' = [osl 22 1 r T.waits.length (T.waits.map u6)] := by
  have hl := hR.len
  refine Does.post (rwaits_r E b T.floor _ L h1 h2 (by omega)) ?_
  rintro v _ ⟨ws, rfl, q1, q2⟩
  rw [waits_R hR.r q1 q2]
  exact ⟨_, fun w s => s, rfl⟩
theorem rmissing_u (E : Env) (b n : Nat) (T : Tb) (id : Nat) (a : Option Addr) (m c : Nat) (L : List Prt) (M : List HProp) (h1 : At (own b [.int .u64 (T.floor : Nat), .slice a m c] 48) E) (h2 : Sl E [] 4 (.slice a m c) L.length (L.flatMap Prt.enc)) (hR : RtR T n L M) (hn : n ≤ 900) : Does Try.prog 20 #[.pointer (some ⟨b, 0, none⟩), .int .u64 (id : Nat)] E ([]) fun r H' => r = .int .i64 (T.missing id : Nat) ∧ H' = [] := by
  have hl := hR.len
  have h := rmissing_r E b T.floor id _ L h1 h2 hR.sl (by omega) (fun p hp => ⟨(hR.r.m.to p hp).1.c0, (hR.r.m.to p hp).1.c1⟩)
  have e : (if (partsS L id).length = 0 then (0 : Int) else (partsS L id)[0]!.ct - ((partsS L id).length : Int)) = ((T.missing id : Nat) : Int) := by
    cases hf : T.find id with
    | none =>
      have hfn : ∀ F ∈ T.fs, F.id ≠ id := fun F hF he => by
        have := List.find?_eq_none.1 hf F hF
        simp [he] at this
      rw [partsAt_none hR.r.m hfn, Tb.missing, hf]; rfl
    | some F =>
      obtain ⟨hid, A, C, hfs⟩ := find_dec hf
      have hF : F ∈ T.fs := by rw [hfs]; simp
      subst hid
      obtain ⟨p, hp, hpi⟩ := hR.r.ne F hF
      obtain ⟨_, G, hG, g1, g2, g3⟩ := hR.r.m.to p hp
      obtain rfl : G = F := fs_inj hR.r.m.ok hG hF (g1.trans hpi)
      have hlen := parts_len hR.r.m hF
      have hix := (List.getElem?_eq_some_iff.1 g3).1
      obtain ⟨q, hq, _⟩ := parts_has hR.r.m hF (i := p.ix.toNat) (by rw [(hR.r.m.ok.ok G hF).len] at hix; exact hix) (by rw [getElem!_pos G.got _ hix]; rw [List.getElem?_eq_getElem hix] at g3; rw [Option.some.inj g3]; rfl)
      have hpos : (partsS L G.id).length ≠ 0 := fun h0 => by rw [List.length_eq_zero_iff.1 h0] at hq; cases hq
      rw [if_neg hpos]
      have hc := (parts_all hR.r.m hF (q := (partsS L G.id)[0]!) (by rw [getElem!_pos _ 0 (by omega)]; exact List.getElem_mem _)).2.2.1
      have hcnt : G.got.countP Option.isSome ≤ G.cnt := by
        have hok := hR.r.m.ok.ok G hF
        rcases Nat.lt_or_ge G.cnt (G.got.countP Option.isSome) with h | h
        · exfalso
          have hc1 := hok.c1
          have h1 : G.got.countP Option.isSome = (G.got.take G.cnt).countP Option.isSome := by
            conv => lhs; rw [← List.take_append_drop G.cnt G.got]
            rw [List.countP_append]
            have : (G.got.drop G.cnt).countP Option.isSome = 0 := by
              rw [List.countP_eq_zero]
              intro a ha
              obtain ⟨j, hj, rfl⟩ := List.getElem_of_mem ha
              rw [List.getElem_drop]
              intro hs
              obtain ⟨d, hd⟩ := Option.isSome_iff_exists.1 hs
              have := (hok.g (G.cnt + j) d (by rw [List.getElem?_eq_getElem (by simp at hj; omega), hd])).1
              omega
            omega
          have h2 := List.countP_le_length (p := Option.isSome) (l := G.got.take G.cnt)
          rw [List.length_take] at h2
          omega
        · exact h
      rw [hc, hlen, Tb.missing, hf]
      simp only [FR.left]
      omega
  rw [e] at h
  exact h
theorem find_of {T : Tb} (h : T.Ok) {F : FR} (hF : F ∈ T.fs) {id : Nat} (hi : F.id = id) : T.find id = some F := by
  cases hf : T.find id with
  | none =>
    have := List.find?_eq_none.1 hf F hF
    simp [hi] at this
  | some G =>
    obtain ⟨hid, A, C, hfs⟩ := find_dec hf
    rw [fs_inj h (F := G) (G := F) (by rw [hfs]; simp) hF (hid.trans hi.symm)]
theorem put_r1 {T : Tb} {L : List Prt} (h : R10 T L) {p q : Prt} (hok : p.Ok) (hfl : ¬ p.id < T.floor) (hq : q ∈ partsS L p.id) (hc : q.ct ≠ p.ct) : T.put p = (⟨[], false, 1⟩, T) := by
  obtain ⟨q1, q2⟩ := partsS_mem hq
  obtain ⟨q3, F, hF, g1, g2, g3⟩ := h.m.to q q1
  have hf : T.find p.id = some F := find_of h.m.ok hF (g1.trans q2)
  rw [Tb.put, if_pos hok, if_neg hfl, hf]
  dsimp only
  rw [if_pos (by rw [g2]; exact hc)]
theorem put_r7 {T : Tb} {L : List Prt} (h : R10 T L) {p q : Prt} (hok : p.Ok) (hfl : ¬ p.id < T.floor) (hq : q ∈ partsS L p.id) (hc : q.ct = p.ct) (hx : q.ix = p.ix) : T.put p = (⟨[], false, 7⟩, T) := by
  obtain ⟨q1, q2⟩ := partsS_mem hq
  obtain ⟨q3, F, hF, g1, g2, g3⟩ := h.m.to q q1
  have hf : T.find p.id = some F := find_of h.m.ok hF (g1.trans q2)
  rw [Tb.put, if_pos hok, if_neg hfl, hf]
  dsimp only
  rw [if_neg (by rw [g2, hc]; simp), if_pos]
  rw [← hx, List.getElem!_eq_getElem?_getD, g3]; rfl
theorem put_rn {T : Tb} {L : List Prt} (h : R10 T L) {p : Prt} (hok : p.Ok) (hfl : ¬ p.id < T.floor) (hq : ∀ q ∈ partsS L p.id, q.ct = p.ct ∧ q.ix ≠ p.ix) :
    ((∀ F ∈ T.fs, F.id ≠ p.id) ∧ partsS L p.id = [] ∧ T.put p = if T.full p.id then (⟨[], false, 5⟩, T) else (T.room.add (FR.new p.id p.ct.toNat)).fin ((FR.new p.id p.ct.toNat).put p.ix.toNat p.d)) ∨
    (∃ A F C, T.fs = A ++ F :: C ∧ F.id = p.id ∧ (F.cnt : Int) = p.ct ∧ F.got[p.ix.toNat]! = none ∧ (partsS L p.id).length ≠ 0 ∧ T.put p = T.fin (F.put p.ix.toNat p.d)) := by
  cases hf : T.find p.id with
  | none =>
    left
    have hfn : ∀ F ∈ T.fs, F.id ≠ p.id := fun F hF he => by
      have := List.find?_eq_none.1 hf F hF
      simp [he] at this
    refine ⟨hfn, partsAt_none h.m hfn, ?_⟩
    rw [Tb.put, if_pos hok, if_neg hfl, hf]
  | some F =>
    right
    obtain ⟨hid, A, C, hfs⟩ := find_dec hf
    have hF : F ∈ T.fs := by rw [hfs]; simp
    have hFl := (h.m.ok.ok F hF).len
    have hx0 := hok.x0; have hx1 := hok.x1; have hc1 := hok.c1
    have hnone : F.got[p.ix.toNat]! = none := by
      cases hg : F.got[p.ix.toNat]! with
      | none => rfl
      | some d =>
        obtain ⟨q, hq1, hq2⟩ := parts_has h.m hF (i := p.ix.toNat) (by omega) (by rw [hg]; rfl)
        rw [hid] at hq1
        exact absurd (by rw [hq2]; omega) (hq q hq1).2
    obtain ⟨p1, hp1, hpi⟩ := h.ne F hF
    obtain ⟨_, G, hG, g1, g2, g3⟩ := h.m.to p1 hp1
    obtain rfl : G = F := fs_inj h.m.ok hG hF (g1.trans hpi)
    have hix := (List.getElem?_eq_some_iff.1 g3).1
    obtain ⟨q, hq1, hq2⟩ := parts_has h.m hF (i := p1.ix.toNat) (by omega) (by rw [getElem!_pos G.got _ hix]; rw [List.getElem?_eq_getElem hix] at g3; rw [Option.some.inj g3]; rfl)
    have hcc := (parts_all h.m hF hq1).2.2.1
    rw [hid] at hq1
    have hcp : (G.cnt : Int) = p.ct := hcc.symm.trans (hq q hq1).1
    refine ⟨A, G, C, hfs, hid, hcp, hnone, (fun h0 => by rw [List.length_eq_zero_iff.1 h0] at hq1; cases hq1), ?_⟩
    rw [Tb.put, if_pos hok, if_neg hfl, hf]
    dsimp only
    rw [if_neg (by rw [hcp]; simp), hnone]
    rfl
structure RJ where
  T : Tb
  A : List FR
  F : FR
  C : List FR
  a : Option Addr
  m : Nat
  c : Nat
  L : List Prt
structure RJ.Ok (j : RJ) (T : Tb) (p : Prt) (n : Nat) (M : List HProp) : Prop where
  r : R10m j.T j.L
  fs : j.T.fs = j.A ++ j.F :: j.C
  id : j.F.id = p.id
  cc : (j.F.cnt : Int) = p.ct
  g : j.F.got[p.ix.toNat]! = none
  ne : ∀ G ∈ j.T.fs, G.id ≠ j.F.id → ∃ q ∈ j.L, q.id = G.id
  put : T.put p = j.T.fin (j.F.put p.ix.toNat p.d)
  len : j.L.length ≤ n
  pool : ∀ p ∈ j.L, osl 5 1 p.s p.d.length (u8s p.d) ∈ M
  sl : ∀ p ∈ j.L, IsSl p.s
theorem rj_new {T : Tb} {L L1 : List Prt} {p : Prt} {n : Nat} {M : List HProp} {a : Option Addr} {m c : Nat} (hok : p.Ok) (hfl : T.floor ≤ p.id) (hR : R10 T L) (hfull : T.full p.id = false) (hfn : ∀ F ∈ T.fs, F.id ≠ p.id) (hR2 : R10 T.room L1)
    (hput : T.put p = (T.room.add (FR.new p.id p.ct.toNat)).fin ((FR.new p.id p.ct.toNat).put p.ix.toNat p.d)) (hlen : L1.length ≤ n) (hpool : ∀ p ∈ L1, osl 5 1 p.s p.d.length (u8s p.d) ∈ M) (hsl : ∀ p ∈ L1, IsSl p.s) :
    (⟨T.room.add (FR.new p.id p.ct.toNat), T.room.fs, FR.new p.id p.ct.toNat, [], a, m, c, L1⟩ : RJ).Ok T p n M := by
  have hadd := Tb.add_ok (Tb.room_ok hR.m.ok) (Tb.room_len hR.m.ok) (FR.new_ok hok) (show T.room.floor ≤ p.id from Tb.room_floor hR.m.ok hfl hfull hfn) (fun F hF => hfn F (T.room_le F hF))
  have hc0 := hok.c0; have hc1 := hok.c1; have hx0 := hok.x0; have hx1 := hok.x1
  refine ⟨hR2.m.add hadd, rfl, rfl, by simp only [FR.new]; omega, ?_, fun G hG hi => ?_, hput, hlen, hpool, hsl⟩
  · show (List.replicate 64 (none : Option (List Int)))[p.ix.toNat]! = none
    rw [getElem!_pos _ _ (by rw [List.length_replicate]; omega), List.getElem_replicate]
  · rcases List.mem_append.1 hG with hG | hG
    · exact hR2.ne G hG
    · rw [List.mem_singleton.1 hG] at hi; exact absurd rfl hi
theorem rput_t (E : Env) (b n : Nat) (T : Tb) (p : Prt) (hd : p.At E) (hn : n ≤ 900) : Does Try.prog 16 #[.pointer (some ⟨b, 0, none⟩), .agg p.enc.toArray] E ([rtabP b n T]) fun r H' => ∃ v, r = .tuple #[v, .bool (T.put p).1.is, .int .i64 (T.put p).1.e] ∧ H' = [osl 5 1 v (T.put p).1.out.length (u8s (T.put p).1.out), rtabP b (n + 1) (T.put p).2] := by
  refine Does.rtab fun a m c L M hR => ?_
  have hL := hR.sl
  have hll := hR.len
  have hln : L.length ≤ 1000 := by omega
  have hR1 : RtR T (n + 1) L M := ⟨hR.r, by omega, hR.pool, hR.sl⟩
  have hds : Sl E [] 1 p.s p.d.length (p.d.map (.int .u8)) := hd
  refine Does.pure hds.up.shape fun hsh => ?_
  obtain ⟨sa, sc, hs'⟩ := hsh
  have hone := Prt.one hs'
  by_cases hok : p.Ok
  · have hnok : ¬ ¬ p.Ok := fun h => h hok
    by_cases hfl : p.id < T.floor
    · have hput : T.put p = (⟨[], false, 23⟩, T) := by rw [Tb.put, if_pos hok, if_pos hfl]
      rw [hput]
      refine Does.go _ _ Try.func16 rfl Try.ntmps16 rfl rfl ?_
      skip
      refine Body.seq ?_
      refine Body.region ?_
      refine Ops.s (Stp.box (lk rfl) rfl (fun b3 => ?_)) rfl
      refine Ops.u (Dtu.asg (lk rfl)) rfl ?_
      refine Ops.u (Dtu.asg (lk rfl)) rfl ?_
      refine Ops.u (Dtu.asg (lk rfl)) rfl ?_
      refine Ops.nil ?_
      refine Then.next ?_
      refine Body.seq ?_
      refine Body.seq ?_
      refine Body.region ?_
      refine Ops.d (Det.lda Try.isAgg44 Try.sizeOf44 (lk rfl) (Rds.ow (m := 4) 0 rfl rfl) rfl) rfl ?_
      refine Ops.s (Stp.call rfl Try.call45 (lks rfl) (fun E' le hat => rright_ok E' p (hd.mono le)) ?_) rfl
      rintro _ _ ⟨rfl, rfl⟩
      refine Ops.u (Dtu.notP (lk rfl)) rfl ?_
      refine Ops.nil ?_
      refine Then.next ?_
      refine Body.condP (lk rfl) (fun hy => absurd hy (by first | omega | assumption | decide)) (fun _ => ?_)
      refine Body.skip ?_
      refine Then.next ?_
      refine Body.seq ?_
      refine Body.seq ?_
      refine Body.draw mixed ?_
      refine AB.u 0 rfl (by decide +kernel) (Dtu.fld fa44_0 (lk rfl)) rfl ?_
      refine AB.d 1 rfl (by decide +kernel) rfl (Det.ld Try.isAgg22 (lk rfl) (Rd.ow 0 rfl rfl)) rfl ?_
      refine AB.u 2 rfl (by decide +kernel) (Dtu.mv (lk rfl)) rfl ?_
      refine AB.u 3 rfl (by decide +kernel) (Dtu.nilck (lk rfl)) rfl ?_
      refine AB.u 4 rfl (by decide +kernel) (Dtu.fld fa48_0 (lk rfl)) rfl ?_
      refine AB.d 5 rfl (by decide +kernel) rfl (Det.ld Try.isAgg22 (lk rfl) (Rd.ow 1 rfl rfl)) rfl ?_
      refine AB.u 6 rfl (by decide +kernel) (Dtu.lss (lk rfl) (lk rfl)) rfl ?_
      refine AB.done (by decide +kernel) ?_
      refine Then.next ?_
      refine Body.condP (lk rfl) (fun _ => ?_) (fun hn => absurd (by first | omega | assumption | decide) hn)
      refine Body.seq ?_
      refine Body.region ?_
      refine Ops.u (Dtu.asg (lk rfl)) rfl ?_
      refine Ops.u (Dtu.asg (lk rfl)) rfl ?_
      refine Ops.u (Dtu.asg (lk rfl)) rfl ?_
      refine Ops.nil ?_
      refine Then.next ?_
      refine Body.ret ?_
      refine Then.ret ?_
      (exact ⟨.inr rfl, _, fun w s => osl_nil (t := 5) (sz := 1) (a := none) (rtabP_in hR1 (pk [1, 1, 1] rfl w s)), _, rfl, rfl⟩)
    · refine Does.go _ _ Try.func16 rfl Try.ntmps16 rfl rfl ?_
      skip
      refine Body.seq ?_
      refine Body.region ?_
      refine Ops.s (Stp.box (lk rfl) rfl (fun b3 => ?_)) rfl
      refine Ops.u (Dtu.asg (lk rfl)) rfl ?_
      refine Ops.u (Dtu.asg (lk rfl)) rfl ?_
      refine Ops.u (Dtu.asg (lk rfl)) rfl ?_
      refine Ops.nil ?_
      refine Then.next ?_
      refine Body.seq ?_
      refine Body.seq ?_
      refine Body.region ?_
      refine Ops.d (Det.lda Try.isAgg44 Try.sizeOf44 (lk rfl) (Rds.ow (m := 4) 0 rfl rfl) rfl) rfl ?_
      refine Ops.s (Stp.call rfl Try.call45 (lks rfl) (fun E' le hat => rright_ok E' p (hd.mono le)) ?_) rfl
      rintro _ _ ⟨rfl, rfl⟩
      refine Ops.u (Dtu.notP (lk rfl)) rfl ?_
      refine Ops.nil ?_
      refine Then.next ?_
      refine Body.condP (lk rfl) (fun hy => absurd hy (by first | omega | assumption | decide)) (fun _ => ?_)
      refine Body.skip ?_
      refine Then.next ?_
      refine Body.seq ?_
      refine Body.seq ?_
      refine Body.draw mixed ?_
      refine AB.u 0 rfl (by decide +kernel) (Dtu.fld fa44_0 (lk rfl)) rfl ?_
      refine AB.d 1 rfl (by decide +kernel) rfl (Det.ld Try.isAgg22 (lk rfl) (Rd.ow 0 rfl rfl)) rfl ?_
      refine AB.u 2 rfl (by decide +kernel) (Dtu.mv (lk rfl)) rfl ?_
      refine AB.u 3 rfl (by decide +kernel) (Dtu.nilck (lk rfl)) rfl ?_
      refine AB.u 4 rfl (by decide +kernel) (Dtu.fld fa48_0 (lk rfl)) rfl ?_
      refine AB.d 5 rfl (by decide +kernel) rfl (Det.ld Try.isAgg22 (lk rfl) (Rd.ow 1 rfl rfl)) rfl ?_
      refine AB.u 6 rfl (by decide +kernel) (Dtu.lss (lk rfl) (lk rfl)) rfl ?_
      refine AB.done (by decide +kernel) ?_
      refine Then.next ?_
      refine Body.condP (lk rfl) (fun hy => absurd hy (by first | omega | assumption | decide)) (fun _ => ?_)
      refine Body.skip ?_
      refine Then.next ?_
      refine Body.seq ?_
      refine Body.region ?_
      refine Ops.u (Dtu.mv (lk rfl)) rfl ?_
      refine Ops.u (Dtu.fld fa44_0 (lk rfl)) rfl ?_
      refine Ops.d (Det.ld Try.isAgg22 (lk rfl) (Rd.ow 0 rfl rfl)) rfl ?_
      refine Ops.s (Stp.call rfl Try.call46 (lks rfl) (fun E' le hat => rparts_r E' b _ p.id _ _ (by first | exact At.mono (by assumption) le | exact hat _ (.head _) | exact hat _ (.tail _ (.head _)) | exact hat _ (.tail _ (.tail _ (.head _))) | exact hat _ (.tail _ (.tail _ (.tail _ (.head _)))) | exact hat _ (.tail _ (.tail _ (.tail _ (.tail _ (.head _))))) | exact hat _ (.tail _ (.tail _ (.tail _ (.tail _ (.tail _ (.head _)))))) | exact hat _ (.tail _ (.tail _ (.tail _ (.tail _ (.tail _ (.tail _ (.head _))))))) | exact hat _ (.tail _ (.tail _ (.tail _ (.tail _ (.tail _ (.tail _ (.tail _ (.head _)))))))) | exact hat _ (.tail _ (.tail _ (.tail _ (.tail _ (.tail _ (.tail _ (.tail _ (.tail _ (.head _))))))))) | exact hat _ (.tail _ (.tail _ (.tail _ (.tail _ (.tail _ (.tail _ (.tail _ (.tail _ (.tail _ (.head _))))))))))) (by first | exact Sl.mono (by assumption) le | exact Sl.hatI hat 0 rfl | exact Sl.hatI hat 1 rfl | exact Sl.hatI hat 2 rfl | exact Sl.hatI hat 3 rfl | exact Sl.hatI hat 4 rfl | exact Sl.hatI hat 5 rfl | exact Sl.hatI hat 6 rfl | exact Sl.hatI hat 7 rfl | exact Sl.hatI hat 8 rfl | exact Sl.hatI hat 9 rfl | exact Sl.hatI hat 10 rfl | exact Sl.hatI hat 11 rfl | exact Sl.hatI hat 12 rfl | exact Sl.hatI hat 13 rfl | exact Sl.hatI hat 14 rfl | exact Sl.hatI hat 15 rfl | exact Sl.hatW hat 0 rfl | exact Sl.hatW hat 1 rfl | exact Sl.hatW hat 2 rfl | exact Sl.hatW hat 3 rfl | exact Sl.hatW hat 4 rfl | exact Sl.hatW hat 5 rfl | exact Sl.hatW hat 6 rfl | exact Sl.hatW hat 7 rfl | exact Sl.hatW hat 8 rfl | exact Sl.hatW hat 9 rfl) (by assumption) (by assumption)) ?_) rfl
      rintro v26 _ rfl
      refine Ops.u (Dtu.asg (lk rfl)) rfl ?_
      refine Ops.nil ?_
      refine Then.next ?_
      refine Body.seq ?_
      refine Body.seq ?_
      refine Body.region ?_
      refine Ops.u (Dtu.asg (lk rfl)) rfl ?_
      refine Ops.nil ?_
      refine Then.next ?_
      refine Body.block ?_
      have hsp := partsS_len L p.id
      generalize hPS : partsS L p.id = PS at *
      refine Body.loopL (γ := Nat) [0, 1, 3, 4, 5, 6, 7] rfl (fun i => [(8, .int .i64 (i : Nat))]) (fun i => []) (fun _ => rfl) (fun _ _ => rfl) (fun i => i ≤ PS.length ∧ ∀ j, j < i → PS[j]!.ct = p.ct ∧ PS[j]!.ix ≠ p.ix) (fun i => PS.length - i) (0) (⟨Nat.zero_le _, fun j hj => by omega⟩) ⟨rfl, trivial⟩ rfl ?_
      rintro i u ⟨hi, hq⟩
      by_cases hlt : i < PS.length
      · have hm : PS[i]! ∈ partsS L p.id := by rw [hPS, getElem!_pos PS i hlt]; exact List.getElem_mem _
        by_cases hc : PS[i]!.ct = p.ct
        · by_cases hx : PS[i]!.ix = p.ix
          · have hput := put_r7 hR.r hok hfl hm hc hx
            rw [hput]
            refine Body.seq ?_
            refine Body.seq ?_
            refine Body.region ?_
            refine Ops.u (Dtu.mv (lk rfl)) rfl ?_
            refine Ops.u (Dtu.mv (lk rfl)) rfl ?_
            refine Ops.u (Dtu.lenS Try.underlying46 (Sl.osl 0 rfl) (lk rfl)) rfl ?_
            refine Ops.u (Dtu.lss (lk rfl) (lk rfl)) rfl ?_
            refine Ops.nil ?_
            refine Then.next ?_
            refine Body.condP (lk rfl) (fun _ => ?_) (fun hn => absurd (by first | omega | assumption | decide) hn)
            refine Body.skip ?_
            refine Then.next ?_
            refine Body.seq ?_
            refine Body.block ?_
            refine Body.seq ?_
            refine Body.seq ?_
            refine Body.draw mixed ?_
            refine AB.u 0 rfl (by decide +kernel) (Dtu.mv (lk rfl)) rfl ?_
            refine AB.u 1 rfl (by decide +kernel) (Dtu.mv (lk rfl)) rfl ?_
            refine AB.u 2 rfl (by decide +kernel) (Dtu.ix (i := (i)) Try.underlying46 Try.sizeOf44 (Sl.osl 0 rfl) (lk rfl) (lk rfl) (by omega) (by omega)) rfl ?_
            refine AB.u 3 rfl (by decide +kernel) (Dtu.fld fa44_2 (lk rfl)) rfl ?_
            refine AB.d 4 rfl (by decide +kernel) rfl (Det.ld Try.isAgg3 (lk rfl) (Rd.sl2 (Sl.osl 0 rfl) (gfe (sz := 4) (fun _ => rfl) (by omega) rfl))) rfl ?_
            refine AB.u 5 rfl (by decide +kernel) (Dtu.fld fa44_2 (lk rfl)) rfl ?_
            refine AB.d 6 rfl (by decide +kernel) rfl (Det.ld Try.isAgg3 (lk rfl) (Rd.ow 1 rfl rfl)) rfl ?_
            refine AB.u 7 rfl (by decide +kernel) (Dtu.neq (lk rfl) (lk rfl)) rfl ?_
            refine AB.done (by decide +kernel) ?_
            refine Then.next ?_
            refine Body.condP (lk rfl) (fun hy => absurd hy (by first | omega | assumption | decide)) (fun _ => ?_)
            refine Body.skip ?_
            refine Then.next ?_
            refine Body.seq ?_
            refine Body.draw mixed ?_
            refine AB.u 0 rfl (by decide +kernel) (Dtu.mv (lk rfl)) rfl ?_
            refine AB.u 1 rfl (by decide +kernel) (Dtu.mv (lk rfl)) rfl ?_
            refine AB.u 2 rfl (by decide +kernel) (Dtu.ix (i := (i)) Try.underlying46 Try.sizeOf44 (Sl.osl 0 rfl) (lk rfl) (lk rfl) (by omega) (by omega)) rfl ?_
            refine AB.u 3 rfl (by decide +kernel) (Dtu.fld fa44_1 (lk rfl)) rfl ?_
            refine AB.d 4 rfl (by decide +kernel) rfl (Det.ld Try.isAgg3 (lk rfl) (Rd.sl2 (Sl.osl 0 rfl) (gfe (sz := 4) (fun _ => rfl) (by omega) rfl))) rfl ?_
            refine AB.u 5 rfl (by decide +kernel) (Dtu.fld fa44_1 (lk rfl)) rfl ?_
            refine AB.d 6 rfl (by decide +kernel) rfl (Det.ld Try.isAgg3 (lk rfl) (Rd.ow 1 rfl rfl)) rfl ?_
            refine AB.u 7 rfl (by decide +kernel) (Dtu.eql (lk rfl) (lk rfl)) rfl ?_
            refine AB.done (by decide +kernel) ?_
            refine Then.next ?_
            refine Body.condP (lk rfl) (fun _ => ?_) (fun hn => absurd (by first | omega | assumption | decide) hn)
            refine Body.seq ?_
            refine Body.region ?_
            refine Ops.u (Dtu.asg (lk rfl)) rfl ?_
            refine Ops.u (Dtu.asg (lk rfl)) rfl ?_
            refine Ops.u (Dtu.asg (lk rfl)) rfl ?_
            refine Ops.nil ?_
            refine Then.next ?_
            refine Body.ret ?_
            refine Blk.ret ?_
            refine Then.ret ?_
            refine Round.ret ?_
            refine Blk.ret ?_
            refine Then.ret ?_
            (exact ⟨.inr rfl, _, fun w s => osl_nil (t := 5) (sz := 1) (a := none) (rtabP_in hR1 (pk [2, 2, 2] rfl w s)), _, rfl, rfl⟩)
          · have hq2 : ∀ j, j < i + 1 → PS[j]!.ct = p.ct ∧ PS[j]!.ix ≠ p.ix := fun j hj => by
              by_cases h : j = i
              · subst h; exact ⟨hc, hx⟩
              · exact hq j (by omega)
            refine Body.seq ?_
            refine Body.seq ?_
            refine Body.region ?_
            refine Ops.u (Dtu.mv (lk rfl)) rfl ?_
            refine Ops.u (Dtu.mv (lk rfl)) rfl ?_
            refine Ops.u (Dtu.lenS Try.underlying46 (Sl.osl 0 rfl) (lk rfl)) rfl ?_
            refine Ops.u (Dtu.lss (lk rfl) (lk rfl)) rfl ?_
            refine Ops.nil ?_
            refine Then.next ?_
            refine Body.condP (lk rfl) (fun _ => ?_) (fun hn => absurd (by first | omega | assumption | decide) hn)
            refine Body.skip ?_
            refine Then.next ?_
            refine Body.seq ?_
            refine Body.block ?_
            refine Body.seq ?_
            refine Body.seq ?_
            refine Body.draw mixed ?_
            refine AB.u 0 rfl (by decide +kernel) (Dtu.mv (lk rfl)) rfl ?_
            refine AB.u 1 rfl (by decide +kernel) (Dtu.mv (lk rfl)) rfl ?_
            refine AB.u 2 rfl (by decide +kernel) (Dtu.ix (i := (i)) Try.underlying46 Try.sizeOf44 (Sl.osl 0 rfl) (lk rfl) (lk rfl) (by omega) (by omega)) rfl ?_
            refine AB.u 3 rfl (by decide +kernel) (Dtu.fld fa44_2 (lk rfl)) rfl ?_
            refine AB.d 4 rfl (by decide +kernel) rfl (Det.ld Try.isAgg3 (lk rfl) (Rd.sl2 (Sl.osl 0 rfl) (gfe (sz := 4) (fun _ => rfl) (by omega) rfl))) rfl ?_
            refine AB.u 5 rfl (by decide +kernel) (Dtu.fld fa44_2 (lk rfl)) rfl ?_
            refine AB.d 6 rfl (by decide +kernel) rfl (Det.ld Try.isAgg3 (lk rfl) (Rd.ow 1 rfl rfl)) rfl ?_
            refine AB.u 7 rfl (by decide +kernel) (Dtu.neq (lk rfl) (lk rfl)) rfl ?_
            refine AB.done (by decide +kernel) ?_
            refine Then.next ?_
            refine Body.condP (lk rfl) (fun hy => absurd hy (by first | omega | assumption | decide)) (fun _ => ?_)
            refine Body.skip ?_
            refine Then.next ?_
            refine Body.seq ?_
            refine Body.draw mixed ?_
            refine AB.u 0 rfl (by decide +kernel) (Dtu.mv (lk rfl)) rfl ?_
            refine AB.u 1 rfl (by decide +kernel) (Dtu.mv (lk rfl)) rfl ?_
            refine AB.u 2 rfl (by decide +kernel) (Dtu.ix (i := (i)) Try.underlying46 Try.sizeOf44 (Sl.osl 0 rfl) (lk rfl) (lk rfl) (by omega) (by omega)) rfl ?_
            refine AB.u 3 rfl (by decide +kernel) (Dtu.fld fa44_1 (lk rfl)) rfl ?_
            refine AB.d 4 rfl (by decide +kernel) rfl (Det.ld Try.isAgg3 (lk rfl) (Rd.sl2 (Sl.osl 0 rfl) (gfe (sz := 4) (fun _ => rfl) (by omega) rfl))) rfl ?_
            refine AB.u 5 rfl (by decide +kernel) (Dtu.fld fa44_1 (lk rfl)) rfl ?_
            refine AB.d 6 rfl (by decide +kernel) rfl (Det.ld Try.isAgg3 (lk rfl) (Rd.ow 1 rfl rfl)) rfl ?_
            refine AB.u 7 rfl (by decide +kernel) (Dtu.eql (lk rfl) (lk rfl)) rfl ?_
            refine AB.done (by decide +kernel) ?_
            refine Then.next ?_
            refine Body.condP (lk rfl) (fun hy => absurd hy (by first | omega | assumption | decide)) (fun _ => ?_)
            refine Body.skip ?_
            refine Blk.norm ?_
            refine Then.next ?_
            refine Body.region ?_
            refine Ops.u (Dtu.mv (lk rfl)) rfl ?_
            refine Ops.u (Dtu.add (lk rfl) (lk rfl) (w64 (by omega) (by omega))) rfl ?_
            refine Ops.u (Dtu.asg (lk rfl)) rfl ?_
            refine Ops.nil ?_
            refine Round.goL [0, 0, 0, 0, 0] (i + 1) rfl ⟨rfl, trivial⟩ rfl rfl ⟨hlt, hq2⟩ (by omega)
        · have hput := put_r1 hR.r hok hfl hm hc
          rw [hput]
          refine Body.seq ?_
          refine Body.seq ?_
          refine Body.region ?_
          refine Ops.u (Dtu.mv (lk rfl)) rfl ?_
          refine Ops.u (Dtu.mv (lk rfl)) rfl ?_
          refine Ops.u (Dtu.lenS Try.underlying46 (Sl.osl 0 rfl) (lk rfl)) rfl ?_
          refine Ops.u (Dtu.lss (lk rfl) (lk rfl)) rfl ?_
          refine Ops.nil ?_
          refine Then.next ?_
          refine Body.condP (lk rfl) (fun _ => ?_) (fun hn => absurd (by first | omega | assumption | decide) hn)
          refine Body.skip ?_
          refine Then.next ?_
          refine Body.seq ?_
          refine Body.block ?_
          refine Body.seq ?_
          refine Body.seq ?_
          refine Body.draw mixed ?_
          refine AB.u 0 rfl (by decide +kernel) (Dtu.mv (lk rfl)) rfl ?_
          refine AB.u 1 rfl (by decide +kernel) (Dtu.mv (lk rfl)) rfl ?_
          refine AB.u 2 rfl (by decide +kernel) (Dtu.ix (i := (i)) Try.underlying46 Try.sizeOf44 (Sl.osl 0 rfl) (lk rfl) (lk rfl) (by omega) (by omega)) rfl ?_
          refine AB.u 3 rfl (by decide +kernel) (Dtu.fld fa44_2 (lk rfl)) rfl ?_
          refine AB.d 4 rfl (by decide +kernel) rfl (Det.ld Try.isAgg3 (lk rfl) (Rd.sl2 (Sl.osl 0 rfl) (gfe (sz := 4) (fun _ => rfl) (by omega) rfl))) rfl ?_
          refine AB.u 5 rfl (by decide +kernel) (Dtu.fld fa44_2 (lk rfl)) rfl ?_
          refine AB.d 6 rfl (by decide +kernel) rfl (Det.ld Try.isAgg3 (lk rfl) (Rd.ow 1 rfl rfl)) rfl ?_
          refine AB.u 7 rfl (by decide +kernel) (Dtu.neq (lk rfl) (lk rfl)) rfl ?_
          refine AB.done (by decide +kernel) ?_
          refine Then.next ?_
          refine Body.condP (lk rfl) (fun _ => ?_) (fun hn => absurd (by first | omega | assumption | decide) hn)
          refine Body.seq ?_
          refine Body.region ?_
          refine Ops.u (Dtu.asg (lk rfl)) rfl ?_
          refine Ops.u (Dtu.asg (lk rfl)) rfl ?_
          refine Ops.u (Dtu.asg (lk rfl)) rfl ?_
          refine Ops.nil ?_
          refine Then.next ?_
          refine Body.ret ?_
          refine Then.ret ?_
          refine Blk.ret ?_
          refine Then.ret ?_
          refine Round.ret ?_
          refine Blk.ret ?_
          refine Then.ret ?_
          (exact ⟨.inr rfl, _, fun w s => osl_nil (t := 5) (sz := 1) (a := none) (rtabP_in hR1 (pk [2, 2, 2] rfl w s)), _, rfl, rfl⟩)
      · have hall : ∀ q ∈ partsS L p.id, q.ct = p.ct ∧ q.ix ≠ p.ix := fun q hm => by
          rw [hPS] at hm
          obtain ⟨j, hj, rfl⟩ := List.getElem_of_mem hm
          have := hq j (by omega)
          rwa [getElem!_pos PS j hj] at this
        have hrn := put_rn hR.r hok hfl hall
        rw [hPS] at hrn
        have hwl := T.waits_len
        have hfl4 := hR.r.m.ok.len
        refine Body.seq ?_
        refine Body.seq ?_
        refine Body.region ?_
        refine Ops.u (Dtu.mv (lk rfl)) rfl ?_
        refine Ops.u (Dtu.mv (lk rfl)) rfl ?_
        refine Ops.u (Dtu.lenS Try.underlying46 (Sl.osl 0 rfl) (lk rfl)) rfl ?_
        refine Ops.u (Dtu.lss (lk rfl) (lk rfl)) rfl ?_
        refine Ops.nil ?_
        refine Then.next ?_
        refine Body.condP (lk rfl) (fun hy => absurd hy (by first | omega | assumption | decide)) (fun _ => ?_)
        refine Body.exit ?_
        refine Then.exit ?_
        refine Round.exit ?_
        refine Blk.here ?_
        refine Then.next ?_
        refine Body.seq ?_
        refine Body.region ?_
        refine Ops.u (Dtu.mv (lk rfl)) rfl ?_
        refine Ops.s (Stp.call rfl Try.call18 (lks rfl) (fun E' le hat => rwaits_r E' b T.floor _ L (by first | exact At.mono (by assumption) le | exact hat _ (.head _) | exact hat _ (.tail _ (.head _)) | exact hat _ (.tail _ (.tail _ (.head _))) | exact hat _ (.tail _ (.tail _ (.tail _ (.head _)))) | exact hat _ (.tail _ (.tail _ (.tail _ (.tail _ (.head _))))) | exact hat _ (.tail _ (.tail _ (.tail _ (.tail _ (.tail _ (.head _)))))) | exact hat _ (.tail _ (.tail _ (.tail _ (.tail _ (.tail _ (.tail _ (.head _))))))) | exact hat _ (.tail _ (.tail _ (.tail _ (.tail _ (.tail _ (.tail _ (.tail _ (.head _)))))))) | exact hat _ (.tail _ (.tail _ (.tail _ (.tail _ (.tail _ (.tail _ (.tail _ (.tail _ (.head _))))))))) | exact hat _ (.tail _ (.tail _ (.tail _ (.tail _ (.tail _ (.tail _ (.tail _ (.tail _ (.tail _ (.head _))))))))))) (by first | exact Sl.mono (by assumption) le | exact Sl.hatI hat 0 rfl | exact Sl.hatI hat 1 rfl | exact Sl.hatI hat 2 rfl | exact Sl.hatI hat 3 rfl | exact Sl.hatI hat 4 rfl | exact Sl.hatI hat 5 rfl | exact Sl.hatI hat 6 rfl | exact Sl.hatI hat 7 rfl | exact Sl.hatI hat 8 rfl | exact Sl.hatI hat 9 rfl | exact Sl.hatI hat 10 rfl | exact Sl.hatI hat 11 rfl | exact Sl.hatI hat 12 rfl | exact Sl.hatI hat 13 rfl | exact Sl.hatI hat 14 rfl | exact Sl.hatI hat 15 rfl | exact Sl.hatW hat 0 rfl | exact Sl.hatW hat 1 rfl | exact Sl.hatW hat 2 rfl | exact Sl.hatW hat 3 rfl | exact Sl.hatW hat 4 rfl | exact Sl.hatW hat 5 rfl | exact Sl.hatW hat 6 rfl | exact Sl.hatW hat 7 rfl | exact Sl.hatW hat 8 rfl | exact Sl.hatW hat 9 rfl) hln) ?_) rfl
        rintro v50 _ ⟨ws50, rfl, wp50, wm50⟩
        refine Ops.u (Dtu.asg (lk rfl)) rfl ?_
        refine Ops.nil ?_
        refine Then.next ?_
        obtain rfl := waits_R hR.r wp50 wm50
        refine Body.seqL (γ := RJ) [0, 1, 3, 4, 5, 6, 7, 8, 9] rfl (fun j => []) (fun j => [(3, own b [.int .u64 (j.T.floor : Nat), .slice j.a j.m j.c] 48), (4, osl 44 4 (.slice j.a j.m j.c) j.L.length (j.L.flatMap Prt.enc))]) (fun _ => rfl) (fun _ _ => rfl) (fun j => j.Ok T p n M) ?_ ?_
        · rcases hrn with ⟨hfn, hnil, hput⟩ | ⟨A, F, C, hfs, hid, hcc, hgn, hne0, hput⟩
          · have hP0 : PS.length = 0 := by rw [hnil]; rfl
            by_cases h4 : T.fs.length = 4
            · have hw0 := T.waits_ok hR.r.m.ok T.waits[0]! (by rw [getElem!_pos T.waits 0 (by omega)]; exact List.getElem_mem _)
              by_cases hlw : p.id < T.waits[0]!
              · have hput : T.put p = (⟨[], false, 5⟩, T) := hput.trans (if_pos (decide_eq_true ⟨by omega, hlw⟩))
                rw [hput]
                refine Body.seq ?_
                refine Body.region ?_
                refine Ops.u (Dtu.mv (lk rfl)) rfl ?_
                refine Ops.u (Dtu.lenS Try.underlying46 (Sl.osl 1 rfl) (lk rfl)) rfl ?_
                refine Ops.u (Dtu.eql (lk rfl) (lk rfl)) rfl ?_
                refine Ops.u (Dtu.mv (lk rfl)) rfl ?_
                refine Ops.decP 54 rfl (fun _ => ?_) (fun hn => absurd (by first | omega | assumption | decide) hn)
                refine Ops.gu rfl rfl rfl (Dtu.mv (lk rfl)) rfl ?_
                refine Ops.gu rfl rfl rfl (Dtu.lenS Try.underlying38 (Sl.osl 0 rfl) (lk rfl)) rfl ?_
                refine Ops.gu rfl rfl rfl (Dtu.eql (lk rfl) (lk rfl)) rfl ?_
                refine Ops.u (Dtu.pickT (lk rfl) (lk rfl)) rfl ?_
                refine Ops.nil ?_
                refine Then.next ?_
                refine Body.condP (lk rfl) (fun _ => ?_) (fun hn => absurd (by first | omega | assumption | decide) hn)
                refine Body.seq ?_
                refine Body.seq ?_
                refine Body.draw mixed ?_
                refine AB.u 0 rfl (by decide +kernel) (Dtu.fld fa44_0 (lk rfl)) rfl ?_
                refine AB.d 1 rfl (by decide +kernel) rfl (Det.ld Try.isAgg22 (lk rfl) (Rd.ow 2 rfl rfl)) rfl ?_
                refine AB.u 2 rfl (by decide +kernel) (Dtu.mv (lk rfl)) rfl ?_
                refine AB.u 3 rfl (by decide +kernel) (Dtu.ix (i := 0) Try.underlying38 Try.sizeOf22 (Sl.osl 0 rfl) (lk rfl) (lk rfl) (by omega) (by omega)) rfl ?_
                refine AB.d 4 rfl (by decide +kernel) rfl (Det.ld Try.isAgg22 (lk rfl) (Rd.sl (Sl.osl 0 rfl) (gm (by omega)))) rfl ?_
                refine AB.u 5 rfl (by decide +kernel) (Dtu.lss (lk rfl) (lk rfl)) rfl ?_
                refine AB.done (by decide +kernel) ?_
                refine Then.next ?_
                refine Body.condP (lk rfl) (fun _ => ?_) (fun hn => absurd (by first | omega | assumption | decide) hn)
                refine Body.seq ?_
                refine Body.region ?_
                refine Ops.u (Dtu.asg (lk rfl)) rfl ?_
                refine Ops.u (Dtu.asg (lk rfl)) rfl ?_
                refine Ops.u (Dtu.asg (lk rfl)) rfl ?_
                refine Ops.nil ?_
                refine Then.next ?_
                refine Body.ret ?_
                refine Then.ret ?_
                refine Joint.ret ?_
                (exact ⟨.inr rfl, _, fun w s => osl_nil (t := 5) (sz := 1) (a := none) (rtabP_in hR1 (pk [3, 3, 3] rfl w s)), _, rfl, rfl⟩)
              · have hfull : T.full p.id = false := decide_eq_false fun h => hlw h.2
                have hput := hput.trans (if_neg (by rw [hfull]; simp))
                have hroom : T.room = T.raise (T.waits[0]! + 1) := if_neg (by omega)
                have hR2 := hR.r.raise (fl := T.waits[0]! + 1) (by omega) (by omega)
                rw [← hroom] at hR2
                have hj := rj_new (a := a) (m := m) (c := c) hok (show T.floor ≤ p.id by omega) hR.r hfull hfn hR2 hput (Nat.le_trans (List.length_filter_le _ _) hll) (fun q hq => hR.pool q (List.mem_filter.1 hq).1) (fun q hq => hL q (List.mem_filter.1 hq).1)
                have hrf : T.room.floor = T.waits[0]! + 1 := by rw [hroom]; rfl
                refine Body.seq ?_
                refine Body.region ?_
                refine Ops.u (Dtu.mv (lk rfl)) rfl ?_
                refine Ops.u (Dtu.lenS Try.underlying46 (Sl.osl 1 rfl) (lk rfl)) rfl ?_
                refine Ops.u (Dtu.eql (lk rfl) (lk rfl)) rfl ?_
                refine Ops.u (Dtu.mv (lk rfl)) rfl ?_
                refine Ops.decP 54 rfl (fun _ => ?_) (fun hn => absurd (by first | omega | assumption | decide) hn)
                refine Ops.gu rfl rfl rfl (Dtu.mv (lk rfl)) rfl ?_
                refine Ops.gu rfl rfl rfl (Dtu.lenS Try.underlying38 (Sl.osl 0 rfl) (lk rfl)) rfl ?_
                refine Ops.gu rfl rfl rfl (Dtu.eql (lk rfl) (lk rfl)) rfl ?_
                refine Ops.u (Dtu.pickT (lk rfl) (lk rfl)) rfl ?_
                refine Ops.nil ?_
                refine Then.next ?_
                refine Body.condP (lk rfl) (fun _ => ?_) (fun hn => absurd (by first | omega | assumption | decide) hn)
                refine Body.seq ?_
                refine Body.seq ?_
                refine Body.draw mixed ?_
                refine AB.u 0 rfl (by decide +kernel) (Dtu.fld fa44_0 (lk rfl)) rfl ?_
                refine AB.d 1 rfl (by decide +kernel) rfl (Det.ld Try.isAgg22 (lk rfl) (Rd.ow 2 rfl rfl)) rfl ?_
                refine AB.u 2 rfl (by decide +kernel) (Dtu.mv (lk rfl)) rfl ?_
                refine AB.u 3 rfl (by decide +kernel) (Dtu.ix (i := 0) Try.underlying38 Try.sizeOf22 (Sl.osl 0 rfl) (lk rfl) (lk rfl) (by omega) (by omega)) rfl ?_
                refine AB.d 4 rfl (by decide +kernel) rfl (Det.ld Try.isAgg22 (lk rfl) (Rd.sl (Sl.osl 0 rfl) (gm (by omega)))) rfl ?_
                refine AB.u 5 rfl (by decide +kernel) (Dtu.lss (lk rfl) (lk rfl)) rfl ?_
                refine AB.done (by decide +kernel) ?_
                refine Then.next ?_
                refine Body.condP (lk rfl) (fun hy => absurd hy (by first | omega | assumption | decide)) (fun _ => ?_)
                refine Body.skip ?_
                refine Then.next ?_
                refine Body.region ?_
                refine Ops.u (Dtu.mv (lk rfl)) rfl ?_
                refine Ops.u (Dtu.mv (lk rfl)) rfl ?_
                refine Ops.u (Dtu.ix (i := 0) Try.underlying38 Try.sizeOf22 (Sl.osl 0 rfl) (lk rfl) (lk rfl) (by omega) (by omega)) rfl ?_
                refine Ops.d (Det.ld Try.isAgg22 (lk rfl) (Rd.sl (Sl.osl 0 rfl) (gm (by omega)))) rfl ?_
                refine Ops.u (Dtu.add (lk rfl) (lk rfl) (wu64 (by omega) (by omega))) rfl ?_
                refine Ops.s (Stp.callOwn [3, 3] rfl rfl Try.call47 (lks rfl) (fun E' le hat => rraise_o E' b T.floor (T.waits[0]! + 1) (.slice a m c) L hL hln) ?_) rfl
                rintro _ _ ⟨ra70, rm70, rc70, rfl, rfl⟩
                refine Ops.nil ?_
                ((exact Joint.goL [2, 2, 2, 0, 0, 0] ⟨T.room.add (FR.new p.id p.ct.toNat), T.room.fs, FR.new p.id p.ct.toNat, [], ra70, rm70, rc70, L.filter fun p => decide (T.waits[0]! + 1 ≤ p.id)⟩ rfl trivial rfl (by rw [← hrf]; rfl) ⟨hj.r, hj.fs, hj.id, hj.cc, hj.g, hj.ne, hj.put, hj.len, hj.pool, hj.sl⟩))
            · have hfull : T.full p.id = false := decide_eq_false fun h => by omega
              have hput := hput.trans (if_neg (by rw [hfull]; simp))
              have hroom : T.room = T := if_pos (by omega)
              have hj := rj_new (a := a) (m := m) (c := c) hok (show T.floor ≤ p.id by omega) hR.r hfull hfn (by rw [hroom]; exact hR.r) hput hll hR.pool hL
              rw [hroom] at hj
              refine Body.seq ?_
              refine Body.region ?_
              refine Ops.u (Dtu.mv (lk rfl)) rfl ?_
              refine Ops.u (Dtu.lenS Try.underlying46 (Sl.osl 1 rfl) (lk rfl)) rfl ?_
              refine Ops.u (Dtu.eql (lk rfl) (lk rfl)) rfl ?_
              refine Ops.u (Dtu.mv (lk rfl)) rfl ?_
              refine Ops.decP 54 rfl (fun _ => ?_) (fun hn => absurd (by first | omega | assumption | decide) hn)
              refine Ops.gu rfl rfl rfl (Dtu.mv (lk rfl)) rfl ?_
              refine Ops.gu rfl rfl rfl (Dtu.lenS Try.underlying38 (Sl.osl 0 rfl) (lk rfl)) rfl ?_
              refine Ops.gu rfl rfl rfl (Dtu.eql (lk rfl) (lk rfl)) rfl ?_
              refine Ops.u (Dtu.pickT (lk rfl) (lk rfl)) rfl ?_
              refine Ops.nil ?_
              refine Then.next ?_
              refine Body.condP (lk rfl) (fun hy => absurd hy (by first | omega | assumption | decide)) (fun _ => ?_)
              refine Body.skip ?_
              refine Joint.goL [0, 0, 0, 0, 0, 0] ⟨T.add (FR.new p.id p.ct.toNat), T.fs, FR.new p.id p.ct.toNat, [], a, m, c, L⟩ rfl trivial rfl rfl hj
          · refine Body.seq ?_
            refine Body.region ?_
            refine Ops.u (Dtu.mv (lk rfl)) rfl ?_
            refine Ops.u (Dtu.lenS Try.underlying46 (Sl.osl 1 rfl) (lk rfl)) rfl ?_
            refine Ops.u (Dtu.eql (lk rfl) (lk rfl)) rfl ?_
            refine Ops.u (Dtu.mv (lk rfl)) rfl ?_
            refine Ops.decP 54 rfl (fun hy => absurd hy (by first | omega | assumption | decide)) (fun _ => ?_)
            refine Ops.gn rfl rfl rfl rfl rfl ?_
            refine Ops.gn rfl rfl rfl rfl rfl ?_
            refine Ops.gn rfl rfl rfl rfl rfl ?_
            refine Ops.u (Dtu.pickF (lk rfl) (lk rfl)) rfl ?_
            refine Ops.nil ?_
            refine Then.next ?_
            refine Body.condF (lk rfl) ?_
            refine Body.skip ?_
            refine Joint.goL [0, 0, 0, 0, 0, 0] ⟨T, A, F, C, a, m, c, L⟩ rfl trivial rfl rfl ⟨hR.r.m, hfs, hid, hcc, hgn, fun G hG _ => hR.r.ne G hG, hput, hll, hR.pool, hL⟩
        rintro ⟨T1, A, F, C, a1, m1, c1, L1⟩ u1 ⟨jr, jfs, jid, jcc, jg, jne, jput, jlen, jpool, jsl⟩
        dsimp only at jr jfs jid jcc jg jne jput jlen jpool jsl ⊢
        have hdl := hok.d0
        refine Body.seq ?_
        refine Body.region ?_
        refine Ops.u (Dtu.asg (lk rfl)) rfl ?_
        refine Ops.nil ?_
        refine Then.next ?_
        refine Body.seq ?_
        refine Body.region ?_
        refine Ops.u (Dtu.mv (lk rfl)) rfl ?_
        refine Ops.u (Dtu.fld fa44_3 (lk rfl)) rfl ?_
        refine Ops.d (Det.ld Try.isAgg23 (lk rfl) (Rd.ow 2 rfl rfl)) rfl ?_
        refine Ops.s (Stp.appendNew Try.underlying23 ty5 rfl (lk rfl) (lk rfl) (Sl.up hds) (by first | rfl | exact all_map (fun _ => rfl) _ | exact all_flat (fun _ => rfl) _ | exact all_one (by assumption)) (by omega) (by omega) (fun v74 => ?_)) rfl
        refine Ops.u (Dtu.fld fa44_3 (lk rfl)) rfl ?_
        refine Ops.pure (Sl.shape (Sl.osl 0 rfl)) fun hslv74 => ?_
        obtain ⟨v74a, v74c, rfl⟩ := hslv74
        refine Ops.e (Stp.store 3 Try.sizeOf23 (lk rfl) (lk rfl) rfl rfl rfl rfl rfl rfl rfl ?_)
        refine Ops.nil ?_
        refine Then.next ?_
        have hone2 : ([.int .u64 (p.id : Nat), .int .i64 p.ix, .int .i64 p.ct, .slice v74a p.d.length v74c] : List Value).all (·.oneCell') = true := rfl
        have hR3 := jr.put (p := p) (q := ⟨p.id, p.ix, p.ct, p.d, .slice v74a p.d.length v74c⟩) jfs hok jid jcc jg jne rfl rfl rfl rfl
        have hpool2 : ∀ q ∈ L1 ++ [⟨p.id, p.ix, p.ct, p.d, .slice v74a p.d.length v74c⟩], osl 5 1 q.s q.d.length (u8s q.d) ∈ osl 5 1 (.slice v74a p.d.length v74c) p.d.length (p.d.map (.int .u8)) :: M := fun q hq => by
          rcases List.mem_append.1 hq with hq | hq
          · exact .tail _ (jpool q hq)
          · rw [List.mem_singleton.1 hq]; exact .head _
        have hsl2 : ∀ q ∈ L1 ++ [⟨p.id, p.ix, p.ct, p.d, .slice v74a p.d.length v74c⟩], IsSl q.s := fun q hq => by
          rcases List.mem_append.1 hq with hq | hq
          · exact jsl q hq
          · rw [List.mem_singleton.1 hq]; exact ⟨_, _, _, rfl⟩
        have hlen2 : (L1 ++ [(⟨p.id, p.ix, p.ct, p.d, .slice v74a p.d.length v74c⟩ : Prt)]).length = L1.length + 1 := by simp
        have hl1 : L1.length ≤ 1000 := by omega
        refine Body.seq ?_
        refine Body.draw mixed ?_
        refine AB.u 0 rfl (by decide +kernel) (Dtu.mv (lk rfl)) rfl ?_
        refine AB.u 1 rfl (by decide +kernel) (Dtu.mv (lk rfl)) rfl ?_
        refine AB.u 2 rfl (by decide +kernel) (Dtu.nilck (lk rfl)) rfl ?_
        refine AB.u 3 rfl (by decide +kernel) (Dtu.fld fa48_1 (lk rfl)) rfl ?_
        refine AB.d 4 rfl (by decide +kernel) rfl (Det.ld Try.isAgg46 (lk rfl) (Rd.ow 4 rfl rfl)) rfl ?_
        refine AB.d 5 rfl (by decide +kernel) rfl (Det.lda Try.isAgg44 Try.sizeOf44 (lk rfl) (Rds.ow (m := 4) 3 rfl rfl) rfl) rfl ?_
        refine AB.s 6 rfl (by decide +kernel) (by decide +kernel) (Stp.buildSliceO Try.underlying46 ty44 (by decide) (by decide) (lkp rfl) rfl rfl rfl (by decide) (fun v82 => ?_)) rfl
        refine AB.s 7 rfl (by decide +kernel) (by decide +kernel) (Stp.append 6 Try.underlying46 ty44 rfl rfl (lk rfl) (lk rfl) (Sl.osl 0 rfl) (by first | rfl | exact all_map (fun _ => rfl) _ | exact all_flat (fun _ => rfl) _ | exact all_one (by assumption)) (by omega) (by omega) (fun v83 => ?_)) rfl
        refine AB.u 8 rfl (by decide +kernel) (Dtu.nilck (lk rfl)) rfl ?_
        refine AB.u 9 rfl (by decide +kernel) (Dtu.fld fa48_1 (lk rfl)) rfl ?_
        refine AB.pure (Sl.shape (Sl.osl 6 rfl)) fun hslv83 => ?_
        obtain ⟨v83a, v83c, rfl⟩ := hslv83
        refine AB.e 10 rfl (by decide +kernel) (by decide +kernel) (Stp.store 5 Try.sizeOf46 (lk rfl) (lk rfl) rfl rfl rfl rfl rfl rfl rfl ?_)
        refine AB.done (by decide +kernel) ?_
        refine Then.next ?_
        obtain ⟨L2, hL2⟩ : ∃ L2, L2 = L1 ++ [(⟨p.id, p.ix, p.ct, p.d, .slice v74a p.d.length v74c⟩ : Prt)] := ⟨_, rfl⟩
        have hle2 : L2.flatMap Prt.enc = L1.flatMap Prt.enc ++ [.int .u64 (p.id : Nat), .int .i64 p.ix, .int .i64 p.ct, .slice v74a p.d.length v74c] := by rw [hL2, List.flatMap_append]; rfl
        rw [← hL2] at hR3 hpool2 hsl2 hlen2
        have hln2 : L2.length ≤ 1000 := by omega
        refine Body.conseq (H' := [own b [.int .u64 (T1.floor : Nat), .slice v83a L2.length v83c] 48, osl 44 4 (.slice v83a L2.length v83c) L2.length (L2.flatMap Prt.enc), many (osl 5 1 (.slice v74a p.d.length v74c) p.d.length (p.d.map (.int .u8)) :: M), own b3 [.int .u64 (p.id : Nat), .int .i64 p.ix, .int .i64 p.ct, .slice v74a p.d.length v74c] 44]) (fun w s => ?_) ?_
        · rw [hlen2, hle2]
          exact pk [5, 5, 0, 3] rfl w (poolCons (pk [1, 6, 0, 0, 0, 0, 0, 0] rfl w s))
        have hcl2 : (partsS L2 p.id).length ≤ 64 * L2.length := partsS_len L2 p.id
        have hFm : F.put p.ix.toNat p.d ∈ (T1.upd (F.put p.ix.toNat p.d)).fs := by
          rw [(upd_ok jfs jr.ok (FR.put_ok hok (jr.ok.ok F (by rw [jfs]; simp)) jcc) rfl).2]; simp
        have hF'ok := hR3.m.ok.ok _ hFm
        have hpl := parts_len hR3.m hFm
        have hid2 : (F.put p.ix.toNat p.d).id = p.id := jid
        rw [hid2] at hpl
        have hcnt : (F.put p.ix.toNat p.d).cnt = F.cnt := rfl
        have hR4 : RtR (T1.upd (F.put p.ix.toNat p.d)) (n + 1) L2 (osl 5 1 (.slice v74a p.d.length v74c) p.d.length (p.d.map (.int .u8)) :: M) := ⟨hR3, by omega, hpool2, hsl2⟩
        by_cases hl0 : 0 < (F.put p.ix.toNat p.d).left
        · have hput : T.put p = (⟨[], false, 0⟩, T1.upd (F.put p.ix.toNat p.d)) := by rw [jput, Tb.fin, if_pos hl0]
          have hlt : ((partsS L2 p.id).length : Int) < p.ct := by simp only [FR.left] at hl0; omega
          rw [hput]
          refine Body.seq ?_
          refine Body.region ?_
          refine Ops.u (Dtu.mv (lk rfl)) rfl ?_
          refine Ops.u (Dtu.fld fa44_0 (lk rfl)) rfl ?_
          refine Ops.d (Det.ld Try.isAgg22 (lk rfl) (Rd.ow 3 rfl rfl)) rfl ?_
          refine Ops.s (Stp.call rfl Try.call46 (lks rfl) (fun E' le hat => rparts_r E' b _ p.id _ _ (by first | exact At.mono (by assumption) le | exact hat _ (.head _) | exact hat _ (.tail _ (.head _)) | exact hat _ (.tail _ (.tail _ (.head _))) | exact hat _ (.tail _ (.tail _ (.tail _ (.head _)))) | exact hat _ (.tail _ (.tail _ (.tail _ (.tail _ (.head _))))) | exact hat _ (.tail _ (.tail _ (.tail _ (.tail _ (.tail _ (.head _)))))) | exact hat _ (.tail _ (.tail _ (.tail _ (.tail _ (.tail _ (.tail _ (.head _))))))) | exact hat _ (.tail _ (.tail _ (.tail _ (.tail _ (.tail _ (.tail _ (.tail _ (.head _)))))))) | exact hat _ (.tail _ (.tail _ (.tail _ (.tail _ (.tail _ (.tail _ (.tail _ (.tail _ (.head _))))))))) | exact hat _ (.tail _ (.tail _ (.tail _ (.tail _ (.tail _ (.tail _ (.tail _ (.tail _ (.tail _ (.head _))))))))))) (by first | exact Sl.mono (by assumption) le | exact Sl.hatI hat 0 rfl | exact Sl.hatI hat 1 rfl | exact Sl.hatI hat 2 rfl | exact Sl.hatI hat 3 rfl | exact Sl.hatI hat 4 rfl | exact Sl.hatI hat 5 rfl | exact Sl.hatI hat 6 rfl | exact Sl.hatI hat 7 rfl | exact Sl.hatI hat 8 rfl | exact Sl.hatI hat 9 rfl | exact Sl.hatI hat 10 rfl | exact Sl.hatI hat 11 rfl | exact Sl.hatI hat 12 rfl | exact Sl.hatI hat 13 rfl | exact Sl.hatI hat 14 rfl | exact Sl.hatI hat 15 rfl | exact Sl.hatW hat 0 rfl | exact Sl.hatW hat 1 rfl | exact Sl.hatW hat 2 rfl | exact Sl.hatW hat 3 rfl | exact Sl.hatW hat 4 rfl | exact Sl.hatW hat 5 rfl | exact Sl.hatW hat 6 rfl | exact Sl.hatW hat 7 rfl | exact Sl.hatW hat 8 rfl | exact Sl.hatW hat 9 rfl) (by assumption) (by assumption)) ?_) rfl
          rintro v89 _ rfl
          refine Ops.u (Dtu.asg (lk rfl)) rfl ?_
          refine Ops.nil ?_
          refine Then.next ?_
          refine Body.seq ?_
          refine Body.seq ?_
          refine Body.region ?_
          refine Ops.u (Dtu.mv (lk rfl)) rfl ?_
          refine Ops.u (Dtu.lenS Try.underlying46 (Sl.osl 0 rfl) (lk rfl)) rfl ?_
          refine Ops.u (Dtu.fld fa44_2 (lk rfl)) rfl ?_
          refine Ops.d (Det.ld Try.isAgg3 (lk rfl) (Rd.ow 4 rfl rfl)) rfl ?_
          refine Ops.u (Dtu.lss (lk rfl) (lk rfl)) rfl ?_
          refine Ops.nil ?_
          refine Then.next ?_
          refine Body.condP (lk rfl) (fun _ => ?_) (fun hn => absurd (by first | omega | assumption | decide) hn)
          refine Body.seq ?_
          refine Body.region ?_
          refine Ops.u (Dtu.asg (lk rfl)) rfl ?_
          refine Ops.u (Dtu.asg (lk rfl)) rfl ?_
          refine Ops.u (Dtu.asg (lk rfl)) rfl ?_
          refine Ops.nil ?_
          refine Then.next ?_
          refine Body.ret ?_
          refine Then.ret ?_
          (exact ⟨.inr rfl, _, fun w s => osl_nil (t := 5) (sz := 1) (a := none) (rtabP_in hR4 (pk [1, 1, 1] rfl w s)), _, rfl, rfl⟩)
        · have hput : T.put p = (⟨(F.put p.ix.toNat p.d).frame, true, 0⟩, (T1.upd (F.put p.ix.toNat p.d)).raise (p.id + 1)) := by rw [jput, Tb.fin, if_neg hl0]; exact hid2 ▸ rfl
          have hnlt : ¬ ((partsS L2 p.id).length : Int) < p.ct := by simp only [FR.left] at hl0; omega
          obtain ⟨hw1, hw2, hw3⟩ := parts_whole hR3.m hFm (by omega)
          rw [hid2] at hw1 hw2 hw3
          have hw0 : 0 < (partsS L2 p.id).length := by have := hF'ok.c0; omega
          rw [hput]
          have hi1 := hok.i1
          have hr1 : (T1.upd (F.put p.ix.toNat p.d)).floor ≤ p.id + 1 := by
            have h1 := jr.ok.ge F (by rw [jfs]; simp)
            simp only [Tb.upd]; omega
          have hR5 := hR3.raise (fl := p.id + 1) hr1 (by omega)
          have hR6 : RtR ((T1.upd (F.put p.ix.toNat p.d)).raise (p.id + 1)) (n + 1) (L2.filter fun q => decide (p.id + 1 ≤ q.id)) (osl 5 1 (.slice v74a p.d.length v74c) p.d.length (p.d.map (.int .u8)) :: M) := ⟨hR5, Nat.le_trans (List.length_filter_le _ _) (by omega), fun q hq => hpool2 q (List.mem_filter.1 hq).1, fun q hq => hsl2 q (List.mem_filter.1 hq).1⟩
          refine Body.seq ?_
          refine Body.region ?_
          refine Ops.u (Dtu.mv (lk rfl)) rfl ?_
          refine Ops.u (Dtu.fld fa44_0 (lk rfl)) rfl ?_
          refine Ops.d (Det.ld Try.isAgg22 (lk rfl) (Rd.ow 3 rfl rfl)) rfl ?_
          refine Ops.s (Stp.call rfl Try.call46 (lks rfl) (fun E' le hat => rparts_r E' b _ p.id _ _ (by first | exact At.mono (by assumption) le | exact hat _ (.head _) | exact hat _ (.tail _ (.head _)) | exact hat _ (.tail _ (.tail _ (.head _))) | exact hat _ (.tail _ (.tail _ (.tail _ (.head _)))) | exact hat _ (.tail _ (.tail _ (.tail _ (.tail _ (.head _))))) | exact hat _ (.tail _ (.tail _ (.tail _ (.tail _ (.tail _ (.head _)))))) | exact hat _ (.tail _ (.tail _ (.tail _ (.tail _ (.tail _ (.tail _ (.head _))))))) | exact hat _ (.tail _ (.tail _ (.tail _ (.tail _ (.tail _ (.tail _ (.tail _ (.head _)))))))) | exact hat _ (.tail _ (.tail _ (.tail _ (.tail _ (.tail _ (.tail _ (.tail _ (.tail _ (.head _))))))))) | exact hat _ (.tail _ (.tail _ (.tail _ (.tail _ (.tail _ (.tail _ (.tail _ (.tail _ (.tail _ (.head _))))))))))) (by first | exact Sl.mono (by assumption) le | exact Sl.hatI hat 0 rfl | exact Sl.hatI hat 1 rfl | exact Sl.hatI hat 2 rfl | exact Sl.hatI hat 3 rfl | exact Sl.hatI hat 4 rfl | exact Sl.hatI hat 5 rfl | exact Sl.hatI hat 6 rfl | exact Sl.hatI hat 7 rfl | exact Sl.hatI hat 8 rfl | exact Sl.hatI hat 9 rfl | exact Sl.hatI hat 10 rfl | exact Sl.hatI hat 11 rfl | exact Sl.hatI hat 12 rfl | exact Sl.hatI hat 13 rfl | exact Sl.hatI hat 14 rfl | exact Sl.hatI hat 15 rfl | exact Sl.hatW hat 0 rfl | exact Sl.hatW hat 1 rfl | exact Sl.hatW hat 2 rfl | exact Sl.hatW hat 3 rfl | exact Sl.hatW hat 4 rfl | exact Sl.hatW hat 5 rfl | exact Sl.hatW hat 6 rfl | exact Sl.hatW hat 7 rfl | exact Sl.hatW hat 8 rfl | exact Sl.hatW hat 9 rfl) (by assumption) (by assumption)) ?_) rfl
          rintro v89 _ rfl
          refine Ops.u (Dtu.asg (lk rfl)) rfl ?_
          refine Ops.nil ?_
          refine Then.next ?_
          refine Body.seq ?_
          refine Body.seq ?_
          refine Body.region ?_
          refine Ops.u (Dtu.mv (lk rfl)) rfl ?_
          refine Ops.u (Dtu.lenS Try.underlying46 (Sl.osl 0 rfl) (lk rfl)) rfl ?_
          refine Ops.u (Dtu.fld fa44_2 (lk rfl)) rfl ?_
          refine Ops.d (Det.ld Try.isAgg3 (lk rfl) (Rd.ow 4 rfl rfl)) rfl ?_
          refine Ops.u (Dtu.lss (lk rfl) (lk rfl)) rfl ?_
          refine Ops.nil ?_
          refine Then.next ?_
          refine Body.condP (lk rfl) (fun hy => absurd hy (by first | omega | assumption | decide)) (fun _ => ?_)
          refine Body.skip ?_
          refine Then.next ?_
          refine Body.seq ?_
          refine Body.region ?_
          refine Ops.u (Dtu.mv (lk rfl)) rfl ?_
          refine Ops.s (Stp.call rfl Try.call48 (lks rfl) (fun E' le hat => rjoin_ok E' (partsS L2 p.id) _ (by first | exact Sl.mono (by assumption) le | exact Sl.hatI hat 0 rfl | exact Sl.hatI hat 1 rfl | exact Sl.hatI hat 2 rfl | exact Sl.hatI hat 3 rfl | exact Sl.hatI hat 4 rfl | exact Sl.hatI hat 5 rfl | exact Sl.hatI hat 6 rfl | exact Sl.hatI hat 7 rfl | exact Sl.hatI hat 8 rfl | exact Sl.hatI hat 9 rfl | exact Sl.hatI hat 10 rfl | exact Sl.hatI hat 11 rfl | exact Sl.hatI hat 12 rfl | exact Sl.hatI hat 13 rfl | exact Sl.hatI hat 14 rfl | exact Sl.hatI hat 15 rfl | exact Sl.hatW hat 0 rfl | exact Sl.hatW hat 1 rfl | exact Sl.hatW hat 2 rfl | exact Sl.hatW hat 3 rfl | exact Sl.hatW hat 4 rfl | exact Sl.hatW hat 5 rfl | exact Sl.hatW hat 6 rfl | exact Sl.hatW hat 7 rfl | exact Sl.hatW hat 8 rfl | exact Sl.hatW hat 9 rfl) (fun q hq => poolSl (by first | exact At.mono (by assumption) le | exact hat _ (.head _) | exact hat _ (.tail _ (.head _)) | exact hat _ (.tail _ (.tail _ (.head _))) | exact hat _ (.tail _ (.tail _ (.tail _ (.head _)))) | exact hat _ (.tail _ (.tail _ (.tail _ (.tail _ (.head _))))) | exact hat _ (.tail _ (.tail _ (.tail _ (.tail _ (.tail _ (.head _)))))) | exact hat _ (.tail _ (.tail _ (.tail _ (.tail _ (.tail _ (.tail _ (.head _))))))) | exact hat _ (.tail _ (.tail _ (.tail _ (.tail _ (.tail _ (.tail _ (.tail _ (.head _)))))))) | exact hat _ (.tail _ (.tail _ (.tail _ (.tail _ (.tail _ (.tail _ (.tail _ (.tail _ (.head _))))))))) | exact hat _ (.tail _ (.tail _ (.tail _ (.tail _ (.tail _ (.tail _ (.tail _ (.tail _ (.tail _ (.head _))))))))))) (hpool2 q (partsS_mem hq).1)) hw1 hw0) ?_) rfl
          rintro _ _ ⟨v97, rfl, rfl⟩
          refine Ops.u (Dtu.mv (lk rfl)) rfl ?_
          refine Ops.u (Dtu.ext (lk rfl) rfl) rfl ?_
          refine Ops.u (Dtu.ext (lk rfl) rfl) rfl ?_
          refine Ops.u (Dtu.asg (lk rfl)) rfl ?_
          refine Ops.u (Dtu.asg (lk rfl)) rfl ?_
          refine Ops.nil ?_
          refine Then.next ?_
          refine Body.seq ?_
          refine Body.region ?_
          refine Ops.u (Dtu.mv (lk rfl)) rfl ?_
          refine Ops.u (Dtu.fld fa44_0 (lk rfl)) rfl ?_
          refine Ops.d (Det.ld Try.isAgg22 (lk rfl) (Rd.ow 5 rfl rfl)) rfl ?_
          refine Ops.u (Dtu.add (lk rfl) (lk rfl) (wu64 (by omega) (by omega))) rfl ?_
          refine Ops.s (Stp.callOwn [2, 2] rfl rfl Try.call47 (lks rfl) (fun E' le hat => rraise_o E' b T1.floor (p.id + 1) (.slice v83a L2.length v83c) L2 hsl2 hln2) ?_) rfl
          rintro _ _ ⟨ra104, rm104, rc104, rfl, rfl⟩
          refine Ops.nil ?_
          refine Then.next ?_
          refine Body.seq ?_
          refine Body.region ?_
          refine Ops.u (Dtu.mv (lk rfl)) rfl ?_
          refine Ops.u (Dtu.mv (lk rfl)) rfl ?_
          refine Ops.u (Dtu.asg (lk rfl)) rfl ?_
          refine Ops.u (Dtu.asg (lk rfl)) rfl ?_
          refine Ops.u (Dtu.asg (lk rfl)) rfl ?_
          refine Ops.nil ?_
          refine Then.next ?_
          refine Body.ret ?_
          (exact ⟨.inr rfl, _, fun w s => pk [1, 0] rfl w (rtabP_in hR6 (pk [0, 0, 2, 0] rfl w (hw3 ▸ s))), _, rfl, rfl⟩)
  · have hput : T.put p = (⟨[], false, 3⟩, T) := by rw [Tb.put, if_neg hok]
    have hnok : ¬ p.Ok := hok
    rw [hput]
    refine Does.go _ _ Try.func16 rfl Try.ntmps16 rfl rfl ?_
    skip
    refine Body.seq ?_
    refine Body.region ?_
    refine Ops.s (Stp.box (lk rfl) rfl (fun b3 => ?_)) rfl
    refine Ops.u (Dtu.asg (lk rfl)) rfl ?_
    refine Ops.u (Dtu.asg (lk rfl)) rfl ?_
    refine Ops.u (Dtu.asg (lk rfl)) rfl ?_
    refine Ops.nil ?_
    refine Then.next ?_
    refine Body.seq ?_
    refine Body.seq ?_
    refine Body.region ?_
    refine Ops.d (Det.lda Try.isAgg44 Try.sizeOf44 (lk rfl) (Rds.ow (m := 4) 0 rfl rfl) rfl) rfl ?_
    refine Ops.s (Stp.call rfl Try.call45 (lks rfl) (fun E' le hat => rright_ok E' p (hd.mono le)) ?_) rfl
    rintro _ _ ⟨rfl, rfl⟩
    refine Ops.u (Dtu.notP (lk rfl)) rfl ?_
    refine Ops.nil ?_
    refine Then.next ?_
    refine Body.condP (lk rfl) (fun _ => ?_) (fun hn => absurd (by first | omega | assumption | decide) hn)
    refine Body.seq ?_
    refine Body.region ?_
    refine Ops.u (Dtu.asg (lk rfl)) rfl ?_
    refine Ops.u (Dtu.asg (lk rfl)) rfl ?_
    refine Ops.u (Dtu.asg (lk rfl)) rfl ?_
    refine Ops.nil ?_
    refine Then.next ?_
    refine Body.ret ?_
    refine Then.ret ?_
    (exact ⟨.inr rfl, _, fun w s => osl_nil (t := 5) (sz := 1) (a := none) (rtabP_in hR1 (pk [1, 1, 1] rfl w s)), _, rfl, rfl⟩)
end Go.Proofs.Ytagcpamchgpgiaa
end
