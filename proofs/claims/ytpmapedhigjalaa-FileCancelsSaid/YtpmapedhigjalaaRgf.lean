/- QNg: FilN, FilO, FilP, OpenF, FilQ, OpenQ, FcancelsP. -/
import Derived.Test.YtpmapedhigjalaaRga
import Derived.Test.YtpmapedhigjalaaRgb
import Derived.Test.YtpmapedhigjalaaRgc
import Derived.Test.YtpmapedhigjalaaRgd
import Derived.Test.YtpmapedhigjalaaRge
section
/- layer 26: alive. -/
namespace Go.Proofs.Ytpmapedhigjalaa
set_option maxRecDepth 100000
set_option maxHeartbeats 4000000
set_option linter.unusedVariables false
set_option linter.unusedSimpArgs false
open Go.Sx

def b65 : List Int := List.replicate 65 0
theorem b65_byt : Byt b65 := Byt.iff.2 fun x hx => by unfold b65 at hx; rw [List.mem_replicate] at hx; omega
def nmF : ByteArray := ⟨#[102]⟩
def zA : Snd := Snd.new 7 nmF b65
theorem newA_s (E : Env) (bv : Value) (hs : Sl E [] 1 bv 65 (b65.map (.int .u8))) : Does Try.prog 37 #[.int .u64 7, .string ⟨#[102]⟩, bv] E ([]) fun r H' => ∃ b, r = .tuple #[.pointer (some ⟨b, 0, none⟩), .int .i64 0] ∧ H' = [sndP b zA] := by
  exact new_s E 7 ⟨#[102]⟩ bv b65 hs b65_byt (by decide)
theorem sofA_ok (E : Env) (parts p : Value) (hq : Sl E [] 1 parts 1 [p]) (hp : Sl E [] 1 p 65 (b65.map (.int .u8))) : Does Try.prog 56 #[parts] E ([]) fun r H' => r = .agg (.int .u8 (shaS b65 0) :: .int .u8 (shaS b65 1) :: .int .u8 (shaS b65 2) :: .int .u8 (shaS b65 3) :: .int .u8 (shaS b65 4) :: .int .u8 (shaS b65 5) :: .int .u8 (shaS b65 6) :: .int .u8 (shaS b65 7) :: .int .u8 (shaS b65 8) :: .int .u8 (shaS b65 9) :: .int .u8 (shaS b65 10) :: .int .u8 (shaS b65 11) :: .int .u8 (shaS b65 12) :: .int .u8 (shaS b65 13) :: .int .u8 (shaS b65 14) :: .int .u8 (shaS b65 15) :: .int .u8 (shaS b65 16) :: .int .u8 (shaS b65 17) :: .int .u8 (shaS b65 18) :: .int .u8 (shaS b65 19) :: .int .u8 (shaS b65 20) :: .int .u8 (shaS b65 21) :: .int .u8 (shaS b65 22) :: .int .u8 (shaS b65 23) :: .int .u8 (shaS b65 24) :: .int .u8 (shaS b65 25) :: .int .u8 (shaS b65 26) :: .int .u8 (shaS b65 27) :: .int .u8 (shaS b65 28) :: .int .u8 (shaS b65 29) :: .int .u8 (shaS b65 30) :: .int .u8 (shaS b65 31) :: []).toArray ∧ H' = [] := by
  exact sof32_ok E parts p b65 hq hp b65_byt (by decide)
theorem alive26_ok (E : Env) : Does Try.prog 36 #[] E ([]) fun r H' => r = .bool true ∧ H' = [] := by
  refine Does.go _ _ Try.func36 rfl Try.ntmps36 rfl rfl ?_
  refine Body.seq ?_
  refine Body.region ?_
  refine Ops.u (Dtu.asg (lk rfl)) rfl ?_
  refine Ops.nil ?_
  refine Then.next ?_
  refine Body.seq ?_
  refine Body.region ?_
  refine Ops.s (Stp.make (m := 65) Try.underlying73 ty5 rfl (lk rfl) (lk rfl) (by omega) (by omega) (by omega) (fun v18 => ?_)) rfl
  refine Ops.s (Stp.call rfl Try.call37 (lks rfl) (fun E' le hat => newA_s E' _ (by first | exact Sl.mono (by assumption) le | exact Sl.hatI hat 0 rfl | exact Sl.hatI hat 1 rfl | exact Sl.hatI hat 2 rfl | exact Sl.hatI hat 3 rfl | exact Sl.hatI hat 4 rfl | exact Sl.hatI hat 5 rfl | exact Sl.hatI hat 6 rfl | exact Sl.hatI hat 7 rfl | exact Sl.hatI hat 8 rfl | exact Sl.hatI hat 9 rfl | exact Sl.hatI hat 10 rfl | exact Sl.hatI hat 11 rfl | exact Sl.hatI hat 12 rfl | exact Sl.hatI hat 13 rfl | exact Sl.hatI hat 14 rfl | exact Sl.hatI hat 15 rfl | exact Sl.hatW hat 0 rfl | exact Sl.hatW hat 1 rfl | exact Sl.hatW hat 2 rfl | exact Sl.hatW hat 3 rfl | exact Sl.hatW hat 4 rfl | exact Sl.hatW hat 5 rfl | exact Sl.hatW hat 6 rfl | exact Sl.hatW hat 7 rfl | exact Sl.hatW hat 8 rfl | exact Sl.hatW hat 9 rfl)) ?_) rfl
  rintro _ _ ⟨nb19, rfl, rfl⟩
  refine Ops.u (Dtu.mv (lk rfl)) rfl ?_
  refine Ops.u (Dtu.ext (lk rfl) rfl) rfl ?_
  refine Ops.u (Dtu.ext (lk rfl) rfl) rfl ?_
  refine Ops.u (Dtu.asg (lk rfl)) rfl ?_
  refine Ops.u (Dtu.asg (lk rfl)) rfl ?_
  refine Ops.nil ?_
  refine Then.next ?_
  refine Body.seq ?_
  refine Body.seq ?_
  refine Body.region ?_
  refine Ops.u (Dtu.mv (lk rfl)) rfl ?_
  refine Ops.u (Dtu.neq (lk rfl) (lk rfl)) rfl ?_
  refine Ops.u (Dtu.mv (lk rfl)) rfl ?_
  refine Ops.decP 24 rfl (fun hy => absurd hy (by first | omega | assumption | decide)) (fun _ => ?_)
  refine Ops.gu rfl rfl rfl (Dtu.mv (lk rfl)) rfl ?_
  refine Ops.gu rfl rfl rfl (Dtu.eqNil Try.underlying75 (lk rfl) (lk rfl)) rfl ?_
  refine Ops.u (Dtu.pickF (lk rfl) (lk rfl)) rfl ?_
  refine Ops.nil ?_
  refine Then.next ?_
  refine Body.condF (lk rfl) ?_
  refine Body.skip ?_
  refine Then.next ?_
  refine Body.seq ?_
  refine Body.region ?_
  refine Ops.u (Dtu.mv (lk rfl)) rfl ?_
  rw [show (List.replicate 65 [Value.int .u8 0]).flatten = b65.map (.int .u8) by rfl]
  have h0 : zA.st = 0 := by decide
  have h1 : zA.gon.st = 0 := by decide
  have hU0 : U64 0 := ⟨by decide, by decide⟩
  have hU1 : U64 1 := ⟨by decide, by decide⟩
  have hr0 : bmR 2 0 = true := by decide
  refine Ops.s (Stp.callOwn [0] rfl rfl Try.call45 (lks rfl) (fun E' le hat => next_s E' _ _ (by first | assumption | omega)) ?_) rfl
  rintro _ _ ⟨na30, nc30, rfl, rfl⟩
  refine Ops.u (Dtu.mv (lk rfl)) rfl ?_
  refine Ops.u (Dtu.ext (lk rfl) rfl) rfl ?_
  refine Ops.u (Dtu.ext (lk rfl) rfl) rfl ?_
  refine Ops.u (Dtu.ext (lk rfl) rfl) rfl ?_
  refine Ops.u (Dtu.asg (lk rfl)) rfl ?_
  refine Ops.u (Dtu.asg (lk rfl)) rfl ?_
  refine Ops.u (Dtu.asg (lk rfl)) rfl ?_
  refine Ops.nil ?_
  refine Then.next ?_
  refine Body.seq ?_
  refine Body.region ?_
  refine Ops.s (Stp.call rfl Try.call88 (lks rfl) (fun E' le hat => bnew_ok E' _ (by first | assumption | omega)) ?_) rfl
  rintro _ _ ⟨rfl, rfl⟩
  refine Ops.u (Dtu.mv (lk rfl)) rfl ?_
  refine Ops.u (Dtu.ext (lk rfl) rfl) rfl ?_
  refine Ops.u (Dtu.ext (lk rfl) rfl) rfl ?_
  refine Ops.s (Stp.alloc ty86 (fun b6 => ?_)) rfl
  refine Ops.e (Stp.store 0 Try.sizeOf86 (lk rfl) (lk rfl) rfl rfl rfl rfl rfl rfl rfl ?_)
  refine Ops.u (Dtu.asg (lk rfl)) rfl ?_
  refine Ops.nil ?_
  refine Then.next ?_
  refine Body.seq ?_
  refine Body.region ?_
  refine Ops.d (Det.lda Try.isAgg86 Try.sizeOf86 (lk rfl) (Rds.ow (m := 2) 0 rfl rfl) rfl) rfl ?_
  refine Ops.s (Stp.call rfl Try.call89 (lks rfl) (fun E' le hat => bwith_ok E' _ _ _ (by first | assumption | omega) (by first | assumption | omega) (by first | assumption | omega)) ?_) rfl
  rintro _ _ ⟨rfl, rfl⟩
  refine Ops.u (Dtu.mv (lk rfl)) rfl ?_
  refine Ops.u (Dtu.ext (lk rfl) rfl) rfl ?_
  refine Ops.u (Dtu.ext (lk rfl) rfl) rfl ?_
  refine Ops.e (Stp.store 0 Try.sizeOf86 (lk rfl) (lk rfl) rfl rfl rfl rfl rfl rfl rfl ?_)
  refine Ops.nil ?_
  refine Then.next ?_
  rw [show orB 0 (2 ^ Int.toNat 0) = 1 by decide]
  have e1 : askF (bmR 2 1) 2 zA.gon.n zA.gon.gone = 0 := by decide
  have h2 : (zA.gon.know 2 1).st = 0 := by decide
  have h3 : (zA.gon.know 2 1).gon.st = 0 := by decide
  have h4 : (zA.gon.know 2 1).gon.gon.st = 0 := by decide
  have n0 : zA.nxt = 0 := by decide
  have n1 : lenN zA.bs.length 0 = 64 := by decide
  have n2 : (zA.gon.know 2 1).nxt = 1 := by decide
  have n3 : lenN (zA.gon.know 2 1).bs.length 1 = 1 := by decide
  have n4 : (zA.gon.know 2 1).gon.nxt = 1 := by decide
  have n5 : lenN (zA.gon.know 2 1).gon.bs.length 1 = 1 := by decide
  have n6 : (zA.gon.know 2 1).gon.gon.nxt = 1 := by decide
  have n7 : lenN (zA.gon.know 2 1).gon.gon.bs.length 1 = 1 := by decide
  have n8 : (zA.gon.know 2 1).gon.gon.left = 1 := by decide
  have n9 : (zA.gon.know 2 1).gon.gon.sm = shaS b65 := rfl
  have n10 : (zA.gon.know 2 1).gon.gon.st = 0 := h4
  refine Body.seq ?_
  refine Body.region ?_
  refine Ops.u (Dtu.mv (lk rfl)) rfl ?_
  refine Ops.d (Det.lda Try.isAgg86 Try.sizeOf86 (lk rfl) (Rds.ow (m := 2) 0 rfl rfl) rfl) rfl ?_
  refine Ops.s (Stp.callOwn [1] rfl rfl Try.call46 (lks rfl) (fun E' le hat => know_s E' _ _ _ _ (by first | assumption | omega)) ?_) rfl
  rintro _ _ ⟨rfl, rfl⟩
  refine Ops.u (Dtu.asg (lk rfl)) rfl ?_
  refine Ops.nil ?_
  refine Then.next ?_
  refine Body.seq ?_
  refine Body.region ?_
  refine Ops.u (Dtu.mv (lk rfl)) rfl ?_
  refine Ops.s (Stp.callOwn [0] rfl rfl Try.call45 (lks rfl) (fun E' le hat => next_s E' _ _ (by first | assumption | omega)) ?_) rfl
  rintro _ _ ⟨na48, nc48, rfl, rfl⟩
  refine Ops.u (Dtu.mv (lk rfl)) rfl ?_
  refine Ops.u (Dtu.ext (lk rfl) rfl) rfl ?_
  refine Ops.u (Dtu.ext (lk rfl) rfl) rfl ?_
  refine Ops.u (Dtu.ext (lk rfl) rfl) rfl ?_
  refine Ops.u (Dtu.asg (lk rfl)) rfl ?_
  refine Ops.u (Dtu.asg (lk rfl)) rfl ?_
  refine Ops.u (Dtu.asg (lk rfl)) rfl ?_
  refine Ops.nil ?_
  refine Then.next ?_
  refine Body.seq ?_
  refine Body.region ?_
  refine Ops.u (Dtu.mv (lk rfl)) rfl ?_
  refine Ops.s (Stp.callOwn [0] rfl rfl Try.call45 (lks rfl) (fun E' le hat => next_s E' _ _ (by first | assumption | omega)) ?_) rfl
  rintro _ _ ⟨na54, nc54, rfl, rfl⟩
  refine Ops.u (Dtu.mv (lk rfl)) rfl ?_
  refine Ops.u (Dtu.ext (lk rfl) rfl) rfl ?_
  refine Ops.u (Dtu.ext (lk rfl) rfl) rfl ?_
  refine Ops.u (Dtu.ext (lk rfl) rfl) rfl ?_
  refine Ops.u (Dtu.asg (lk rfl)) rfl ?_
  refine Ops.u (Dtu.asg (lk rfl)) rfl ?_
  refine Ops.u (Dtu.asg (lk rfl)) rfl ?_
  refine Ops.nil ?_
  refine Then.next ?_
  refine Body.seq ?_
  refine Body.region ?_
  refine Ops.u (Dtu.mv (lk rfl)) rfl ?_
  refine Ops.s (Stp.callOwn [0] rfl rfl Try.call40 (lks rfl) (fun E' le hat => peek_s E' _ _ (by first | assumption | omega)) ?_) rfl
  rintro _ _ ⟨rfl, rfl⟩
  refine Ops.u (Dtu.mv (lk rfl)) rfl ?_
  refine Ops.u (Dtu.ext (lk rfl) rfl) rfl ?_
  refine Ops.u (Dtu.ext (lk rfl) rfl) rfl ?_
  refine Ops.u (Dtu.asg (lk rfl)) rfl ?_
  refine Ops.u (Dtu.asg (lk rfl)) rfl ?_
  refine Ops.nil ?_
  refine Then.next ?_
  rw [n0, n2, n4, n6, n1, n3, n5, n7]
  generalize (zA.gon.know 2 1).gon.gon = z3 at *
  generalize chunk (zA.gon.know 2 1).gon.bs 1 = k1
  generalize chunk (zA.gon.know 2 1).bs 1 = k2
  generalize chunk zA.bs 0 = k3
  clear n0 n1 n2 n3 n4 n5 n6 n7 e1 h0 h1 h2 h3 hr0
  have hq : eqS z3.sm (shaS b65) = true := by rw [n9]; exact eqS_same _
  refine Body.seq ?_
  refine Body.drawE [] mixed rfl ?_
  rintro E11' le11 -
  refine AE.u 0 rfl (by decide +kernel) (Dtu.mv (lk rfl)) rfl ?_
  refine AE.u 1 rfl (by decide +kernel) (Dtu.eql (lk rfl) (lk rfl)) rfl ?_
  refine AE.u 2 rfl (by decide +kernel) (Dtu.mv (lk rfl)) rfl ?_
  refine AE.decP 65 rfl (fun _ => ?_) (fun hn => absurd (by first | omega | assumption | decide) hn)
  refine AE.gu 3 rfl (by decide +kernel) rfl rfl rfl (Dtu.mv (lk rfl)) rfl ?_
  refine AE.gu 4 rfl (by decide +kernel) rfl rfl rfl (Dtu.lenS Try.underlying73 (Sl.osl 4 rfl) (lk rfl)) rfl ?_
  refine AE.gu 5 rfl (by decide +kernel) rfl rfl rfl (Dtu.eql (lk rfl) (lk rfl)) rfl ?_
  refine AE.u 6 rfl (by decide +kernel) (Dtu.pickT (lk rfl) (lk rfl)) rfl ?_
  refine AE.u 7 rfl (by decide +kernel) (Dtu.mv (lk rfl)) rfl ?_
  refine AE.decP 70 rfl (fun _ => ?_) (fun hn => absurd (by first | omega | assumption | decide) hn)
  refine AE.gu 8 rfl (by decide +kernel) rfl rfl rfl (Dtu.mv (lk rfl)) rfl ?_
  refine AE.u 9 rfl (by decide +kernel) (Dtu.pickT (lk rfl) (lk rfl)) rfl ?_
  refine AE.u 10 rfl (by decide +kernel) (Dtu.mv (lk rfl)) rfl ?_
  refine AE.gu 11 rfl (by decide +kernel) rfl rfl rfl (Dtu.mv (lk rfl)) rfl ?_
  refine AE.gu 12 rfl (by decide +kernel) rfl rfl rfl (Dtu.eql (lk rfl) (lk rfl)) rfl ?_
  refine AE.u 13 rfl (by decide +kernel) (Dtu.pickT (lk rfl) (lk rfl)) rfl ?_
  refine AE.u 14 rfl (by decide +kernel) (Dtu.mv (lk rfl)) rfl ?_
  refine AE.decP 77 rfl (fun _ => ?_) (fun hn => absurd (by first | omega | assumption | decide) hn)
  refine AE.gu 15 rfl (by decide +kernel) rfl rfl rfl (Dtu.mv (lk rfl)) rfl ?_
  refine AE.gu 16 rfl (by decide +kernel) rfl rfl rfl (Dtu.eql (lk rfl) (lk rfl)) rfl ?_
  refine AE.u 17 rfl (by decide +kernel) (Dtu.pickT (lk rfl) (lk rfl)) rfl ?_
  refine AE.u 18 rfl (by decide +kernel) (Dtu.mv (lk rfl)) rfl ?_
  refine AE.decP 81 rfl (fun _ => ?_) (fun hn => absurd (by first | omega | assumption | decide) hn)
  refine AE.gu 19 rfl (by decide +kernel) rfl rfl rfl (Dtu.mv (lk rfl)) rfl ?_
  refine AE.gu 20 rfl (by decide +kernel) rfl rfl rfl (Dtu.lenS Try.underlying73 (Sl.osl 2 rfl) (lk rfl)) rfl ?_
  refine AE.gu 21 rfl (by decide +kernel) rfl rfl rfl (Dtu.eql (lk rfl) (lk rfl)) rfl ?_
  refine AE.u 22 rfl (by decide +kernel) (Dtu.pickT (lk rfl) (lk rfl)) rfl ?_
  refine AE.u 23 rfl (by decide +kernel) (Dtu.mv (lk rfl)) rfl ?_
  refine AE.decP 86 rfl (fun _ => ?_) (fun hn => absurd (by first | omega | assumption | decide) hn)
  refine AE.gu 24 rfl (by decide +kernel) rfl rfl rfl (Dtu.mv (lk rfl)) rfl ?_
  refine AE.u 25 rfl (by decide +kernel) (Dtu.pickT (lk rfl) (lk rfl)) rfl ?_
  refine AE.u 26 rfl (by decide +kernel) (Dtu.mv (lk rfl)) rfl ?_
  refine AE.gu 27 rfl (by decide +kernel) rfl rfl rfl (Dtu.mv (lk rfl)) rfl ?_
  refine AE.gu 28 rfl (by decide +kernel) rfl rfl rfl (Dtu.eql (lk rfl) (lk rfl)) rfl ?_
  refine AE.u 29 rfl (by decide +kernel) (Dtu.pickT (lk rfl) (lk rfl)) rfl ?_
  refine AE.u 30 rfl (by decide +kernel) (Dtu.mv (lk rfl)) rfl ?_
  refine AE.decP 93 rfl (fun _ => ?_) (fun hn => absurd (by first | omega | assumption | decide) hn)
  refine AE.gu 31 rfl (by decide +kernel) rfl rfl rfl (Dtu.mv (lk rfl)) rfl ?_
  refine AE.u 32 rfl (by decide +kernel) (Dtu.pickT (lk rfl) (lk rfl)) rfl ?_
  refine AE.u 33 rfl (by decide +kernel) (Dtu.mv (lk rfl)) rfl ?_
  refine AE.gu 34 rfl (by decide +kernel) rfl rfl rfl (Dtu.mv (lk rfl)) rfl ?_
  refine AE.gu 35 rfl (by decide +kernel) rfl rfl rfl (Dtu.eql (lk rfl) (lk rfl)) rfl ?_
  refine AE.u 36 rfl (by decide +kernel) (Dtu.pickT (lk rfl) (lk rfl)) rfl ?_
  refine AE.u 37 rfl (by decide +kernel) (Dtu.mv (lk rfl)) rfl ?_
  refine AE.decP 100 rfl (fun _ => ?_) (fun hn => absurd (by first | omega | assumption | decide) hn)
  refine AE.gu 38 rfl (by decide +kernel) rfl rfl rfl (Dtu.mv (lk rfl)) rfl ?_
  refine AE.u 39 rfl (by decide +kernel) (Dtu.pickT (lk rfl) (lk rfl)) rfl ?_
  refine AE.u 40 rfl (by decide +kernel) (Dtu.mv (lk rfl)) rfl ?_
  refine AE.gu 41 rfl (by decide +kernel) rfl rfl rfl (Dtu.mv (lk rfl)) rfl ?_
  refine AE.more [42] (by decide +kernel) rfl ⟨?_, trivial⟩
  refine AEI.gs rfl rfl rfl rfl (Stp.callOwn [0] rfl rfl Try.call51 (lks rfl) (fun E' le hat => left_s E' _ _) ?_) rfl
  rintro _ _ ⟨rfl, rfl⟩
  refine AE.gu 43 rfl (by decide +kernel) rfl rfl rfl (Dtu.eql (lk rfl) (lk rfl)) rfl ?_
  refine AE.u 44 rfl (by decide +kernel) (Dtu.pickT (lk rfl) (lk rfl)) rfl ?_
  refine AE.u 45 rfl (by decide +kernel) (Dtu.mv (lk rfl)) rfl ?_
  refine AE.decP 108 rfl (fun _ => ?_) (fun hn => absurd (by first | omega | assumption | decide) hn)
  refine AE.gu 46 rfl (by decide +kernel) rfl rfl rfl (Dtu.mv (lk rfl)) rfl ?_
  refine AE.more [47] (by decide +kernel) rfl ⟨?_, trivial⟩
  refine AEI.gs rfl rfl rfl rfl (Stp.callOwn [0] rfl rfl Try.call53 (lks rfl) (fun E' le hat => state_s E' _ _) ?_) rfl
  rintro _ _ ⟨rfl, rfl⟩
  refine AE.gu 48 rfl (by decide +kernel) rfl rfl rfl (Dtu.eql (lk rfl) (lk rfl)) rfl ?_
  refine AE.u 49 rfl (by decide +kernel) (Dtu.pickT (lk rfl) (lk rfl)) rfl ?_
  refine AE.u 50 rfl (by decide +kernel) (Dtu.mv (lk rfl)) rfl ?_
  refine AE.decP 113 rfl (fun _ => ?_) (fun hn => absurd (by first | omega | assumption | decide) hn)
  refine AE.gu 51 rfl (by decide +kernel) rfl rfl rfl (Dtu.mv (lk rfl)) rfl ?_
  refine AE.more [52, 54] (by decide +kernel) rfl ⟨?_, ?_, trivial⟩
  · refine AEI.gs rfl rfl rfl rfl (Stp.callOwn [0] rfl rfl Try.call55 (lks rfl) (fun E' le hat => info_s E' _ _) ?_) rfl
    rintro _ _ ⟨rfl, rfl⟩
    refine AE.gu 53 rfl (by decide +kernel) rfl rfl rfl (Dtu.fielda fo82_3 (lk rfl) rfl) rfl ?_
    refine AE.more [54] (by decide +kernel) rfl ⟨?_, trivial⟩
    refine AEI.gs rfl rfl rfl rfl (Stp.make (m := 65) Try.underlying73 ty5 rfl (lk rfl) (lk rfl) (by omega) (by omega) (by omega) (fun v117 => ?_)) rfl
    refine AE.pure (Sl.shape (Sl.osl 0 rfl)) fun hslv117 => ?_
    obtain ⟨v117a, v117c, rfl⟩ := hslv117
    refine AE.more [55] (by decide +kernel) rfl ⟨?_, trivial⟩
    refine AEI.gs rfl rfl rfl rfl (Stp.buildSliceO Try.underlying144 ty73 (by decide) (by decide) (lkp rfl) rfl rfl rfl (by decide) (fun v118 => ?_)) rfl
    refine AE.more [56] (by decide +kernel) rfl ⟨?_, trivial⟩
    refine AEI.gs rfl rfl rfl rfl (Stp.call rfl Try.call56 (lks rfl) (fun E' le hat => sofA_ok E' _ _ (by first | exact Sl.mono (by assumption) le | exact Sl.hatI hat 0 rfl | exact Sl.hatI hat 1 rfl | exact Sl.hatI hat 2 rfl | exact Sl.hatI hat 3 rfl | exact Sl.hatI hat 4 rfl | exact Sl.hatI hat 5 rfl | exact Sl.hatI hat 6 rfl | exact Sl.hatI hat 7 rfl | exact Sl.hatI hat 8 rfl | exact Sl.hatI hat 9 rfl | exact Sl.hatI hat 10 rfl | exact Sl.hatI hat 11 rfl | exact Sl.hatI hat 12 rfl | exact Sl.hatI hat 13 rfl | exact Sl.hatI hat 14 rfl | exact Sl.hatI hat 15 rfl | exact Sl.hatW hat 0 rfl | exact Sl.hatW hat 1 rfl | exact Sl.hatW hat 2 rfl | exact Sl.hatW hat 3 rfl | exact Sl.hatW hat 4 rfl | exact Sl.hatW hat 5 rfl | exact Sl.hatW hat 6 rfl | exact Sl.hatW hat 7 rfl | exact Sl.hatW hat 8 rfl | exact Sl.hatW hat 9 rfl) (by first | exact Sl.mono (by assumption) le | exact Sl.hatI hat 0 rfl | exact Sl.hatI hat 1 rfl | exact Sl.hatI hat 2 rfl | exact Sl.hatI hat 3 rfl | exact Sl.hatI hat 4 rfl | exact Sl.hatI hat 5 rfl | exact Sl.hatI hat 6 rfl | exact Sl.hatI hat 7 rfl | exact Sl.hatI hat 8 rfl | exact Sl.hatI hat 9 rfl | exact Sl.hatI hat 10 rfl | exact Sl.hatI hat 11 rfl | exact Sl.hatI hat 12 rfl | exact Sl.hatI hat 13 rfl | exact Sl.hatI hat 14 rfl | exact Sl.hatI hat 15 rfl | exact Sl.hatW hat 0 rfl | exact Sl.hatW hat 1 rfl | exact Sl.hatW hat 2 rfl | exact Sl.hatW hat 3 rfl | exact Sl.hatW hat 4 rfl | exact Sl.hatW hat 5 rfl | exact Sl.hatW hat 6 rfl | exact Sl.hatW hat 7 rfl | exact Sl.hatW hat 8 rfl | exact Sl.hatW hat 9 rfl)) ?_) rfl
    rintro _ _ ⟨rfl, rfl⟩
    refine AE.gu 57 rfl (by decide +kernel) rfl rfl rfl (Dtu.eqS eqGuard80 (eq80 _ _) (lk rfl) (lk rfl)) rfl ?_
    refine AE.u 58 rfl (by decide +kernel) (Dtu.pickT (lk rfl) (lk rfl)) rfl ?_
    refine AE.u 59 rfl (by decide +kernel) (Dtu.asg (lk rfl)) rfl ?_
    refine AE.done (by decide +kernel) ?_
    refine Then.next ?_
    refine Body.ret ?_
    exact ⟨.inr rfl, _, pk [] rfl, ⟨by rw [hq]; rfl, rfl⟩⟩
  · refine AEI.gs rfl rfl rfl rfl (Stp.make (m := 65) Try.underlying73 ty5 rfl (lk rfl) (lk rfl) (by omega) (by omega) (by omega) (fun v117 => ?_)) rfl
    refine AE.pure (Sl.shape (Sl.osl 0 rfl)) fun hslv117 => ?_
    obtain ⟨v117a, v117c, rfl⟩ := hslv117
    refine AE.more [52, 55] (by decide +kernel) rfl ⟨?_, ?_, trivial⟩
    · refine AEI.gs rfl rfl rfl rfl (Stp.callOwn [1] rfl rfl Try.call55 (lks rfl) (fun E' le hat => info_s E' _ _) ?_) rfl
      rintro _ _ ⟨rfl, rfl⟩
      refine AE.gu 53 rfl (by decide +kernel) rfl rfl rfl (Dtu.fielda fo82_3 (lk rfl) rfl) rfl ?_
      refine AE.more [55] (by decide +kernel) rfl ⟨?_, trivial⟩
      refine AEI.gs rfl rfl rfl rfl (Stp.buildSliceO Try.underlying144 ty73 (by decide) (by decide) (lkp rfl) rfl rfl rfl (by decide) (fun v118 => ?_)) rfl
      refine AE.more [56] (by decide +kernel) rfl ⟨?_, trivial⟩
      refine AEI.gs rfl rfl rfl rfl (Stp.call rfl Try.call56 (lks rfl) (fun E' le hat => sofA_ok E' _ _ (by first | exact Sl.mono (by assumption) le | exact Sl.hatI hat 0 rfl | exact Sl.hatI hat 1 rfl | exact Sl.hatI hat 2 rfl | exact Sl.hatI hat 3 rfl | exact Sl.hatI hat 4 rfl | exact Sl.hatI hat 5 rfl | exact Sl.hatI hat 6 rfl | exact Sl.hatI hat 7 rfl | exact Sl.hatI hat 8 rfl | exact Sl.hatI hat 9 rfl | exact Sl.hatI hat 10 rfl | exact Sl.hatI hat 11 rfl | exact Sl.hatI hat 12 rfl | exact Sl.hatI hat 13 rfl | exact Sl.hatI hat 14 rfl | exact Sl.hatI hat 15 rfl | exact Sl.hatW hat 0 rfl | exact Sl.hatW hat 1 rfl | exact Sl.hatW hat 2 rfl | exact Sl.hatW hat 3 rfl | exact Sl.hatW hat 4 rfl | exact Sl.hatW hat 5 rfl | exact Sl.hatW hat 6 rfl | exact Sl.hatW hat 7 rfl | exact Sl.hatW hat 8 rfl | exact Sl.hatW hat 9 rfl) (by first | exact Sl.mono (by assumption) le | exact Sl.hatI hat 0 rfl | exact Sl.hatI hat 1 rfl | exact Sl.hatI hat 2 rfl | exact Sl.hatI hat 3 rfl | exact Sl.hatI hat 4 rfl | exact Sl.hatI hat 5 rfl | exact Sl.hatI hat 6 rfl | exact Sl.hatI hat 7 rfl | exact Sl.hatI hat 8 rfl | exact Sl.hatI hat 9 rfl | exact Sl.hatI hat 10 rfl | exact Sl.hatI hat 11 rfl | exact Sl.hatI hat 12 rfl | exact Sl.hatI hat 13 rfl | exact Sl.hatI hat 14 rfl | exact Sl.hatI hat 15 rfl | exact Sl.hatW hat 0 rfl | exact Sl.hatW hat 1 rfl | exact Sl.hatW hat 2 rfl | exact Sl.hatW hat 3 rfl | exact Sl.hatW hat 4 rfl | exact Sl.hatW hat 5 rfl | exact Sl.hatW hat 6 rfl | exact Sl.hatW hat 7 rfl | exact Sl.hatW hat 8 rfl | exact Sl.hatW hat 9 rfl)) ?_) rfl
      rintro _ _ ⟨rfl, rfl⟩
      refine AE.gu 57 rfl (by decide +kernel) rfl rfl rfl (Dtu.eqS eqGuard80 (eq80 _ _) (lk rfl) (lk rfl)) rfl ?_
      refine AE.u 58 rfl (by decide +kernel) (Dtu.pickT (lk rfl) (lk rfl)) rfl ?_
      refine AE.u 59 rfl (by decide +kernel) (Dtu.asg (lk rfl)) rfl ?_
      refine AE.done (by decide +kernel) ?_
      refine Then.next ?_
      refine Body.ret ?_
      exact ⟨.inr rfl, _, pk [] rfl, ⟨by rw [hq]; rfl, rfl⟩⟩
    · refine AEI.gs rfl rfl rfl rfl (Stp.buildSliceO Try.underlying144 ty73 (by decide) (by decide) (lkp rfl) rfl rfl rfl (by decide) (fun v118 => ?_)) rfl
      refine AE.more [52] (by decide +kernel) rfl ⟨?_, trivial⟩
      refine AEI.gs rfl rfl rfl rfl (Stp.callOwn [2] rfl rfl Try.call55 (lks rfl) (fun E' le hat => info_s E' _ _) ?_) rfl
      rintro _ _ ⟨rfl, rfl⟩
      refine AE.gu 53 rfl (by decide +kernel) rfl rfl rfl (Dtu.fielda fo82_3 (lk rfl) rfl) rfl ?_
      refine AE.more [56] (by decide +kernel) rfl ⟨?_, trivial⟩
      refine AEI.gs rfl rfl rfl rfl (Stp.call rfl Try.call56 (lks rfl) (fun E' le hat => sofA_ok E' _ _ (by first | exact Sl.mono (by assumption) le | exact Sl.hatI hat 0 rfl | exact Sl.hatI hat 1 rfl | exact Sl.hatI hat 2 rfl | exact Sl.hatI hat 3 rfl | exact Sl.hatI hat 4 rfl | exact Sl.hatI hat 5 rfl | exact Sl.hatI hat 6 rfl | exact Sl.hatI hat 7 rfl | exact Sl.hatI hat 8 rfl | exact Sl.hatI hat 9 rfl | exact Sl.hatI hat 10 rfl | exact Sl.hatI hat 11 rfl | exact Sl.hatI hat 12 rfl | exact Sl.hatI hat 13 rfl | exact Sl.hatI hat 14 rfl | exact Sl.hatI hat 15 rfl | exact Sl.hatW hat 0 rfl | exact Sl.hatW hat 1 rfl | exact Sl.hatW hat 2 rfl | exact Sl.hatW hat 3 rfl | exact Sl.hatW hat 4 rfl | exact Sl.hatW hat 5 rfl | exact Sl.hatW hat 6 rfl | exact Sl.hatW hat 7 rfl | exact Sl.hatW hat 8 rfl | exact Sl.hatW hat 9 rfl) (by first | exact Sl.mono (by assumption) le | exact Sl.hatI hat 0 rfl | exact Sl.hatI hat 1 rfl | exact Sl.hatI hat 2 rfl | exact Sl.hatI hat 3 rfl | exact Sl.hatI hat 4 rfl | exact Sl.hatI hat 5 rfl | exact Sl.hatI hat 6 rfl | exact Sl.hatI hat 7 rfl | exact Sl.hatI hat 8 rfl | exact Sl.hatI hat 9 rfl | exact Sl.hatI hat 10 rfl | exact Sl.hatI hat 11 rfl | exact Sl.hatI hat 12 rfl | exact Sl.hatI hat 13 rfl | exact Sl.hatI hat 14 rfl | exact Sl.hatI hat 15 rfl | exact Sl.hatW hat 0 rfl | exact Sl.hatW hat 1 rfl | exact Sl.hatW hat 2 rfl | exact Sl.hatW hat 3 rfl | exact Sl.hatW hat 4 rfl | exact Sl.hatW hat 5 rfl | exact Sl.hatW hat 6 rfl | exact Sl.hatW hat 7 rfl | exact Sl.hatW hat 8 rfl | exact Sl.hatW hat 9 rfl)) ?_) rfl
      rintro _ _ ⟨rfl, rfl⟩
      refine AE.gu 57 rfl (by decide +kernel) rfl rfl rfl (Dtu.eqS eqGuard80 (eq80 _ _) (lk rfl) (lk rfl)) rfl ?_
      refine AE.u 58 rfl (by decide +kernel) (Dtu.pickT (lk rfl) (lk rfl)) rfl ?_
      refine AE.u 59 rfl (by decide +kernel) (Dtu.asg (lk rfl)) rfl ?_
      refine AE.done (by decide +kernel) ?_
      refine Then.next ?_
      refine Body.ret ?_
      exact ⟨.inr rfl, _, pk [] rfl, ⟨by rw [hq]; rfl, rfl⟩⟩
end Go.Proofs.Ytpmapedhigjalaa
end
section
/- file: senders that are nil, or that no call made. -/
namespace Go.Proofs.Ytpmapedhigjalaa
set_option maxRecDepth 100000
set_option maxHeartbeats 4000000
set_option linter.unusedVariables false
set_option linter.unusedSimpArgs false
open Go.Sx

theorem next0_ok (E : Env) : Does Try.prog 92 #[.pointer none] E ([]) fun r H' => r = .int .i64 (-1) ∧ H' = [] := by
  refine Does.go _ _ Try.func92 rfl Try.ntmps92 rfl rfl ?_
  refine Body.seq ?_
  refine Body.region ?_
  refine Ops.u (Dtu.asg (lk rfl)) rfl ?_
  refine Ops.nil ?_
  refine Then.next ?_
  refine Body.scope ?_
  refine Body.seq ?_
  refine Body.seq ?_
  refine Body.region ?_
  refine Ops.u (Dtu.mv (lk rfl)) rfl ?_
  refine Ops.u (Dtu.eqNil Try.underlying75 (lk rfl) (lk rfl)) rfl ?_
  refine Ops.u (Dtu.mv (lk rfl)) rfl ?_
  refine Ops.gn rfl rfl rfl rfl rfl ?_
  refine Ops.gn rfl rfl rfl rfl rfl ?_
  refine Ops.gn rfl rfl rfl rfl rfl ?_
  refine Ops.gn rfl rfl rfl rfl rfl ?_
  refine Ops.gn rfl rfl rfl rfl rfl ?_
  refine Ops.u (Dtu.pickT (lk rfl) (lk rfl)) rfl ?_
  refine Ops.u (Dtu.mv (lk rfl)) rfl ?_
  refine Ops.gn rfl rfl rfl rfl rfl ?_
  refine Ops.gn rfl rfl rfl rfl rfl ?_
  refine Ops.gn rfl rfl rfl rfl rfl ?_
  refine Ops.u (Dtu.pickT (lk rfl) (lk rfl)) rfl ?_
  refine Ops.nil ?_
  refine Then.next ?_
  refine Body.condT (lk rfl) ?_
  refine Body.seq ?_
  refine Body.region ?_
  refine Ops.u (Dtu.asg (lk rfl)) rfl ?_
  refine Ops.nil ?_
  refine Then.next ?_
  refine Body.ret ?_
  refine Then.ret ?_
  exact ⟨.inr rfl, _, pk [] rfl, rfl, rfl⟩
theorem Next0_ok (E : Env) : Does Try.prog 45 #[.pointer none] E ([]) fun r H' => r = .tuple #[.int .i64 0, .slice none 0 0, .bool false] ∧ H' = [] := by
  refine Does.go _ _ Try.func45 rfl Try.ntmps45 rfl rfl ?_
  refine Body.seq ?_
  refine Body.region ?_
  refine Ops.u (Dtu.asg (lk rfl)) rfl ?_
  refine Ops.u (Dtu.asg (lk rfl)) rfl ?_
  refine Ops.u (Dtu.asg (lk rfl)) rfl ?_
  refine Ops.nil ?_
  refine Then.next ?_
  refine Body.seq ?_
  refine Body.region ?_
  refine Ops.u (Dtu.mv (lk rfl)) rfl ?_
  refine Ops.s (Stp.call rfl Try.call92 (lks rfl) (fun E' le hat => next0_ok E') ?_) rfl
  rintro _ _ ⟨rfl, rfl⟩
  refine Ops.u (Dtu.asg (lk rfl)) rfl ?_
  refine Ops.nil ?_
  refine Then.next ?_
  refine Body.seq ?_
  refine Body.seq ?_
  refine Body.region ?_
  refine Ops.u (Dtu.mv (lk rfl)) rfl ?_
  refine Ops.u (Dtu.lss (lk rfl) (lk rfl)) rfl ?_
  refine Ops.nil ?_
  refine Then.next ?_
  refine Body.condP (lk rfl) (fun _ => ?_) (fun hn => absurd (by first | omega | assumption | decide) hn)
  refine Body.seq ?_
  refine Body.region ?_
  refine Ops.u (Dtu.asg (lk rfl)) rfl ?_
  refine Ops.u (Dtu.asg (lk rfl)) rfl ?_
  refine Ops.u (Dtu.asg (lk rfl)) rfl ?_
  refine Ops.nil ?_
  refine Then.next ?_
  refine Body.ret ?_
  refine Then.ret ?_
  exact ⟨.inr rfl, _, pk [] rfl, rfl, rfl⟩
theorem ask0_ok (E : Env) (n x : Int) : Does Try.prog 93 #[.pointer none, .agg #[.int .i64 n, .int .u64 x]] E ([]) fun r H' => r = .int .i64 6 ∧ H' = [] := by
  refine Does.go _ _ Try.func93 rfl Try.ntmps93 rfl rfl ?_
  refine Body.seq ?_
  refine Body.region ?_
  refine Ops.s (Stp.box (lk rfl) rfl (fun b3 => ?_)) rfl
  refine Ops.u (Dtu.asg (lk rfl)) rfl ?_
  refine Ops.nil ?_
  refine Then.next ?_
  refine Body.seq ?_
  refine Body.block ?_
  refine Body.seq ?_
  refine Body.region ?_
  refine Ops.u (Dtu.mv (lk rfl)) rfl ?_
  refine Ops.u (Dtu.eqNil Try.underlying75 (lk rfl) (lk rfl)) rfl ?_
  refine Ops.u (Dtu.mv (lk rfl)) rfl ?_
  refine Ops.gn rfl rfl rfl rfl rfl ?_
  refine Ops.gn rfl rfl rfl rfl rfl ?_
  refine Ops.gn rfl rfl rfl rfl rfl ?_
  refine Ops.gn rfl rfl rfl rfl rfl ?_
  refine Ops.gn rfl rfl rfl rfl rfl ?_
  refine Ops.u (Dtu.pickT (lk rfl) (lk rfl)) rfl ?_
  refine Ops.u (Dtu.asg (lk rfl)) rfl ?_
  refine Ops.nil ?_
  refine Then.next ?_
  refine Body.condT (lk rfl) ?_
  refine Body.seq ?_
  refine Body.region ?_
  refine Ops.u (Dtu.asg (lk rfl)) rfl ?_
  refine Ops.nil ?_
  refine Then.next ?_
  refine Body.ret ?_
  refine Blk.ret ?_
  refine Then.ret ?_
  exact ⟨.inr rfl, _, pk [] rfl, rfl, rfl⟩
theorem Know0_ok (E : Env) (n x : Int) : Does Try.prog 46 #[.pointer none, .agg #[.int .i64 n, .int .u64 x]] E ([]) fun r H' => r = .int .i64 6 ∧ H' = [] := by
  refine Does.go _ _ Try.func46 rfl Try.ntmps46 rfl rfl ?_
  refine Body.seq ?_
  refine Body.region ?_
  refine Ops.s (Stp.box (lk rfl) rfl (fun b3 => ?_)) rfl
  refine Ops.u (Dtu.asg (lk rfl)) rfl ?_
  refine Ops.nil ?_
  refine Then.next ?_
  refine Body.seq ?_
  refine Body.seq ?_
  refine Body.region ?_
  refine Ops.u (Dtu.mv (lk rfl)) rfl ?_
  refine Ops.d (Det.lda Try.isAgg86 Try.sizeOf86 (lk rfl) (Rds.ow (m := 2) 0 rfl rfl) rfl) rfl ?_
  refine Ops.s (Stp.call rfl Try.call93 (lks rfl) (fun E' le hat => ask0_ok E' _ _) ?_) rfl
  rintro _ _ ⟨rfl, rfl⟩
  refine Ops.u (Dtu.asg (lk rfl)) rfl ?_
  refine Ops.nil ?_
  refine Then.next ?_
  refine Body.seq ?_
  refine Body.region ?_
  refine Ops.u (Dtu.mv (lk rfl)) rfl ?_
  refine Ops.u (Dtu.neq (lk rfl) (lk rfl)) rfl ?_
  refine Ops.nil ?_
  refine Then.next ?_
  refine Body.condP (lk rfl) (fun _ => ?_) (fun hn => absurd (by first | omega | assumption | decide) hn)
  refine Body.seq ?_
  refine Body.region ?_
  refine Ops.u (Dtu.mv (lk rfl)) rfl ?_
  refine Ops.u (Dtu.asg (lk rfl)) rfl ?_
  refine Ops.nil ?_
  refine Then.next ?_
  refine Body.ret ?_
  refine Then.ret ?_
  exact ⟨.inr rfl, _, pk [] rfl, rfl, rfl⟩
theorem Cancel0_ok (E : Env) : Does Try.prog 49 #[.pointer none] E ([]) fun r H' => r = .int .i64 6 ∧ H' = [] := by
  refine Does.go _ _ Try.func49 rfl Try.ntmps49 rfl rfl ?_
  refine Body.seq ?_
  refine Body.region ?_
  refine Ops.u (Dtu.asg (lk rfl)) rfl ?_
  refine Ops.nil ?_
  refine Then.next ?_
  refine Body.seq ?_
  refine Body.block ?_
  refine Body.seq ?_
  refine Body.region ?_
  refine Ops.u (Dtu.mv (lk rfl)) rfl ?_
  refine Ops.u (Dtu.eqNil Try.underlying75 (lk rfl) (lk rfl)) rfl ?_
  refine Ops.u (Dtu.mv (lk rfl)) rfl ?_
  refine Ops.gn rfl rfl rfl rfl rfl ?_
  refine Ops.gn rfl rfl rfl rfl rfl ?_
  refine Ops.gn rfl rfl rfl rfl rfl ?_
  refine Ops.gn rfl rfl rfl rfl rfl ?_
  refine Ops.gn rfl rfl rfl rfl rfl ?_
  refine Ops.u (Dtu.pickT (lk rfl) (lk rfl)) rfl ?_
  refine Ops.u (Dtu.asg (lk rfl)) rfl ?_
  refine Ops.nil ?_
  refine Then.next ?_
  refine Body.condT (lk rfl) ?_
  refine Body.seq ?_
  refine Body.region ?_
  refine Ops.u (Dtu.asg (lk rfl)) rfl ?_
  refine Ops.nil ?_
  refine Then.next ?_
  refine Body.ret ?_
  refine Blk.ret ?_
  refine Then.ret ?_
  exact ⟨.inr rfl, _, pk [] rfl, rfl, rfl⟩
theorem Left0_ok (E : Env) : Does Try.prog 51 #[.pointer none] E ([]) fun r H' => r = .int .i64 0 ∧ H' = [] := by
  refine Does.go _ _ Try.func51 rfl Try.ntmps51 rfl rfl ?_
  refine Body.seq ?_
  refine Body.region ?_
  refine Ops.u (Dtu.asg (lk rfl)) rfl ?_
  refine Ops.nil ?_
  refine Then.next ?_
  refine Body.seq ?_
  refine Body.seq ?_
  refine Body.region ?_
  refine Ops.u (Dtu.mv (lk rfl)) rfl ?_
  refine Ops.u (Dtu.eqNil Try.underlying75 (lk rfl) (lk rfl)) rfl ?_
  refine Ops.u (Dtu.mv (lk rfl)) rfl ?_
  refine Ops.gn rfl rfl rfl rfl rfl ?_
  refine Ops.gn rfl rfl rfl rfl rfl ?_
  refine Ops.gn rfl rfl rfl rfl rfl ?_
  refine Ops.gn rfl rfl rfl rfl rfl ?_
  refine Ops.u (Dtu.pickT (lk rfl) (lk rfl)) rfl ?_
  refine Ops.nil ?_
  refine Then.next ?_
  refine Body.condT (lk rfl) ?_
  refine Body.seq ?_
  refine Body.region ?_
  refine Ops.u (Dtu.asg (lk rfl)) rfl ?_
  refine Ops.nil ?_
  refine Then.next ?_
  refine Body.ret ?_
  refine Then.ret ?_
  exact ⟨.inr rfl, _, pk [] rfl, rfl, rfl⟩
theorem State0_ok (E : Env) : Does Try.prog 53 #[.pointer none] E ([]) fun r H' => r = .int .i64 0 ∧ H' = [] := by
  refine Does.go _ _ Try.func53 rfl Try.ntmps53 rfl rfl ?_
  refine Body.seq ?_
  refine Body.region ?_
  refine Ops.u (Dtu.asg (lk rfl)) rfl ?_
  refine Ops.nil ?_
  refine Then.next ?_
  refine Body.seq ?_
  refine Body.block ?_
  refine Body.seq ?_
  refine Body.region ?_
  refine Ops.u (Dtu.mv (lk rfl)) rfl ?_
  refine Ops.u (Dtu.eqNil Try.underlying75 (lk rfl) (lk rfl)) rfl ?_
  refine Ops.u (Dtu.mv (lk rfl)) rfl ?_
  refine Ops.gn rfl rfl rfl rfl rfl ?_
  refine Ops.gn rfl rfl rfl rfl rfl ?_
  refine Ops.gn rfl rfl rfl rfl rfl ?_
  refine Ops.gn rfl rfl rfl rfl rfl ?_
  refine Ops.gn rfl rfl rfl rfl rfl ?_
  refine Ops.u (Dtu.pickT (lk rfl) (lk rfl)) rfl ?_
  refine Ops.u (Dtu.asg (lk rfl)) rfl ?_
  refine Ops.nil ?_
  refine Then.next ?_
  refine Body.condT (lk rfl) ?_
  refine Body.seq ?_
  refine Body.region ?_
  refine Ops.u (Dtu.asg (lk rfl)) rfl ?_
  refine Ops.nil ?_
  refine Then.next ?_
  refine Body.ret ?_
  refine Blk.ret ?_
  refine Then.ret ?_
  exact ⟨.inr rfl, _, pk [] rfl, rfl, rfl⟩
theorem nextZ_ok (E : Env) (b : Nat) : Does Try.prog 92 #[.pointer (some ⟨b, 0, none⟩)] E ([own b [.bool false, .int .u64 0, .string ⟨#[]⟩, .int .i64 0, .int .u8 0, .int .u8 0, .int .u8 0, .int .u8 0, .int .u8 0, .int .u8 0, .int .u8 0, .int .u8 0, .int .u8 0, .int .u8 0, .int .u8 0, .int .u8 0, .int .u8 0, .int .u8 0, .int .u8 0, .int .u8 0, .int .u8 0, .int .u8 0, .int .u8 0, .int .u8 0, .int .u8 0, .int .u8 0, .int .u8 0, .int .u8 0, .int .u8 0, .int .u8 0, .int .u8 0, .int .u8 0, .int .u8 0, .int .u8 0, .int .u8 0, .int .u8 0, .slice none 0 0, .int .i64 0, .int .u64 0, .int .i64 0, .bool false] 104]) fun r H' => r = .int .i64 (-1) ∧ H' = [own b [.bool false, .int .u64 0, .string ⟨#[]⟩, .int .i64 0, .int .u8 0, .int .u8 0, .int .u8 0, .int .u8 0, .int .u8 0, .int .u8 0, .int .u8 0, .int .u8 0, .int .u8 0, .int .u8 0, .int .u8 0, .int .u8 0, .int .u8 0, .int .u8 0, .int .u8 0, .int .u8 0, .int .u8 0, .int .u8 0, .int .u8 0, .int .u8 0, .int .u8 0, .int .u8 0, .int .u8 0, .int .u8 0, .int .u8 0, .int .u8 0, .int .u8 0, .int .u8 0, .int .u8 0, .int .u8 0, .int .u8 0, .int .u8 0, .slice none 0 0, .int .i64 0, .int .u64 0, .int .i64 0, .bool false] 104] := by
  refine Does.go _ _ Try.func92 rfl Try.ntmps92 rfl rfl ?_
  refine Body.seq ?_
  refine Body.region ?_
  refine Ops.u (Dtu.asg (lk rfl)) rfl ?_
  refine Ops.nil ?_
  refine Then.next ?_
  refine Body.scope ?_
  refine Body.seq ?_
  refine Body.seq ?_
  refine Body.region ?_
  refine Ops.u (Dtu.mv (lk rfl)) rfl ?_
  refine Ops.u (Dtu.eqNil Try.underlying75 (lk rfl) (lk rfl)) rfl ?_
  refine Ops.u (Dtu.mv (lk rfl)) rfl ?_
  refine Ops.gu rfl rfl rfl (Dtu.mv (lk rfl)) rfl ?_
  refine Ops.gu rfl rfl rfl (Dtu.nilck (lk rfl)) rfl ?_
  refine Ops.gu rfl rfl rfl (Dtu.fld fa104_0 (lk rfl)) rfl ?_
  refine Ops.gd rfl rfl rfl (Det.ld Try.isAgg4 (lk rfl) (Rd.ow 0 rfl rfl)) rfl ?_
  refine Ops.gu rfl rfl rfl (Dtu.not (lk rfl)) rfl ?_
  refine Ops.u (Dtu.pickF (lk rfl) (lk rfl)) rfl ?_
  refine Ops.u (Dtu.mv (lk rfl)) rfl ?_
  refine Ops.gn rfl rfl rfl rfl rfl ?_
  refine Ops.gn rfl rfl rfl rfl rfl ?_
  refine Ops.gn rfl rfl rfl rfl rfl ?_
  refine Ops.u (Dtu.pickT (lk rfl) (lk rfl)) rfl ?_
  refine Ops.nil ?_
  refine Then.next ?_
  refine Body.condT (lk rfl) ?_
  refine Body.seq ?_
  refine Body.region ?_
  refine Ops.u (Dtu.asg (lk rfl)) rfl ?_
  refine Ops.nil ?_
  refine Then.next ?_
  refine Body.ret ?_
  refine Then.ret ?_
  exact ⟨.inr rfl, _, pk [0] rfl, rfl, rfl⟩
theorem PeekZ_ok (E : Env) (b : Nat) : Does Try.prog 40 #[.pointer (some ⟨b, 0, none⟩)] E ([own b [.bool false, .int .u64 0, .string ⟨#[]⟩, .int .i64 0, .int .u8 0, .int .u8 0, .int .u8 0, .int .u8 0, .int .u8 0, .int .u8 0, .int .u8 0, .int .u8 0, .int .u8 0, .int .u8 0, .int .u8 0, .int .u8 0, .int .u8 0, .int .u8 0, .int .u8 0, .int .u8 0, .int .u8 0, .int .u8 0, .int .u8 0, .int .u8 0, .int .u8 0, .int .u8 0, .int .u8 0, .int .u8 0, .int .u8 0, .int .u8 0, .int .u8 0, .int .u8 0, .int .u8 0, .int .u8 0, .int .u8 0, .int .u8 0, .slice none 0 0, .int .i64 0, .int .u64 0, .int .i64 0, .bool false] 104]) fun r H' => r = .tuple #[.int .i64 0, .bool false] ∧ H' = [own b [.bool false, .int .u64 0, .string ⟨#[]⟩, .int .i64 0, .int .u8 0, .int .u8 0, .int .u8 0, .int .u8 0, .int .u8 0, .int .u8 0, .int .u8 0, .int .u8 0, .int .u8 0, .int .u8 0, .int .u8 0, .int .u8 0, .int .u8 0, .int .u8 0, .int .u8 0, .int .u8 0, .int .u8 0, .int .u8 0, .int .u8 0, .int .u8 0, .int .u8 0, .int .u8 0, .int .u8 0, .int .u8 0, .int .u8 0, .int .u8 0, .int .u8 0, .int .u8 0, .int .u8 0, .int .u8 0, .int .u8 0, .int .u8 0, .slice none 0 0, .int .i64 0, .int .u64 0, .int .i64 0, .bool false] 104] := by
  refine Does.go _ _ Try.func40 rfl Try.ntmps40 rfl rfl ?_
  refine Body.seq ?_
  refine Body.region ?_
  refine Ops.u (Dtu.asg (lk rfl)) rfl ?_
  refine Ops.u (Dtu.asg (lk rfl)) rfl ?_
  refine Ops.nil ?_
  refine Then.next ?_
  refine Body.seq ?_
  refine Body.region ?_
  refine Ops.u (Dtu.mv (lk rfl)) rfl ?_
  refine Ops.s (Stp.callOwn [0] rfl rfl Try.call92 (lks rfl) (fun E' le hat => nextZ_ok E' _) ?_) rfl
  rintro _ _ ⟨rfl, rfl⟩
  refine Ops.u (Dtu.asg (lk rfl)) rfl ?_
  refine Ops.nil ?_
  refine Then.next ?_
  refine Body.seq ?_
  refine Body.seq ?_
  refine Body.region ?_
  refine Ops.u (Dtu.mv (lk rfl)) rfl ?_
  refine Ops.u (Dtu.lss (lk rfl) (lk rfl)) rfl ?_
  refine Ops.nil ?_
  refine Then.next ?_
  refine Body.condP (lk rfl) (fun _ => ?_) (fun hn => absurd (by first | omega | assumption | decide) hn)
  refine Body.seq ?_
  refine Body.region ?_
  refine Ops.u (Dtu.asg (lk rfl)) rfl ?_
  refine Ops.u (Dtu.asg (lk rfl)) rfl ?_
  refine Ops.nil ?_
  refine Then.next ?_
  refine Body.ret ?_
  refine Then.ret ?_
  exact ⟨.inr rfl, _, pk [0] rfl, rfl, rfl⟩
theorem askZ_ok (E : Env) (b : Nat) (n x : Int) : Does Try.prog 93 #[.pointer (some ⟨b, 0, none⟩), .agg #[.int .i64 n, .int .u64 x]] E ([own b [.bool false, .int .u64 0, .string ⟨#[]⟩, .int .i64 0, .int .u8 0, .int .u8 0, .int .u8 0, .int .u8 0, .int .u8 0, .int .u8 0, .int .u8 0, .int .u8 0, .int .u8 0, .int .u8 0, .int .u8 0, .int .u8 0, .int .u8 0, .int .u8 0, .int .u8 0, .int .u8 0, .int .u8 0, .int .u8 0, .int .u8 0, .int .u8 0, .int .u8 0, .int .u8 0, .int .u8 0, .int .u8 0, .int .u8 0, .int .u8 0, .int .u8 0, .int .u8 0, .int .u8 0, .int .u8 0, .int .u8 0, .int .u8 0, .slice none 0 0, .int .i64 0, .int .u64 0, .int .i64 0, .bool false] 104]) fun r H' => r = .int .i64 6 ∧ H' = [own b [.bool false, .int .u64 0, .string ⟨#[]⟩, .int .i64 0, .int .u8 0, .int .u8 0, .int .u8 0, .int .u8 0, .int .u8 0, .int .u8 0, .int .u8 0, .int .u8 0, .int .u8 0, .int .u8 0, .int .u8 0, .int .u8 0, .int .u8 0, .int .u8 0, .int .u8 0, .int .u8 0, .int .u8 0, .int .u8 0, .int .u8 0, .int .u8 0, .int .u8 0, .int .u8 0, .int .u8 0, .int .u8 0, .int .u8 0, .int .u8 0, .int .u8 0, .int .u8 0, .int .u8 0, .int .u8 0, .int .u8 0, .int .u8 0, .slice none 0 0, .int .i64 0, .int .u64 0, .int .i64 0, .bool false] 104] := by
  refine Does.go _ _ Try.func93 rfl Try.ntmps93 rfl rfl ?_
  refine Body.seq ?_
  refine Body.region ?_
  refine Ops.s (Stp.box (lk rfl) rfl (fun b3 => ?_)) rfl
  refine Ops.u (Dtu.asg (lk rfl)) rfl ?_
  refine Ops.nil ?_
  refine Then.next ?_
  refine Body.seq ?_
  refine Body.block ?_
  refine Body.seq ?_
  refine Body.region ?_
  refine Ops.u (Dtu.mv (lk rfl)) rfl ?_
  refine Ops.u (Dtu.eqNil Try.underlying75 (lk rfl) (lk rfl)) rfl ?_
  refine Ops.u (Dtu.mv (lk rfl)) rfl ?_
  refine Ops.gu rfl rfl rfl (Dtu.mv (lk rfl)) rfl ?_
  refine Ops.gu rfl rfl rfl (Dtu.nilck (lk rfl)) rfl ?_
  refine Ops.gu rfl rfl rfl (Dtu.fld fa104_0 (lk rfl)) rfl ?_
  refine Ops.gd rfl rfl rfl (Det.ld Try.isAgg4 (lk rfl) (Rd.ow 1 rfl rfl)) rfl ?_
  refine Ops.gu rfl rfl rfl (Dtu.not (lk rfl)) rfl ?_
  refine Ops.u (Dtu.pickF (lk rfl) (lk rfl)) rfl ?_
  refine Ops.u (Dtu.asg (lk rfl)) rfl ?_
  refine Ops.nil ?_
  refine Then.next ?_
  refine Body.condT (lk rfl) ?_
  refine Body.seq ?_
  refine Body.region ?_
  refine Ops.u (Dtu.asg (lk rfl)) rfl ?_
  refine Ops.nil ?_
  refine Then.next ?_
  refine Body.ret ?_
  refine Blk.ret ?_
  refine Then.ret ?_
  exact ⟨.inr rfl, _, pk [1] rfl, rfl, rfl⟩
theorem AnewZ_ok (E : Env) (b : Nat) (n x : Int) : Does Try.prog 48 #[.pointer (some ⟨b, 0, none⟩), .agg #[.int .i64 n, .int .u64 x]] E ([own b [.bool false, .int .u64 0, .string ⟨#[]⟩, .int .i64 0, .int .u8 0, .int .u8 0, .int .u8 0, .int .u8 0, .int .u8 0, .int .u8 0, .int .u8 0, .int .u8 0, .int .u8 0, .int .u8 0, .int .u8 0, .int .u8 0, .int .u8 0, .int .u8 0, .int .u8 0, .int .u8 0, .int .u8 0, .int .u8 0, .int .u8 0, .int .u8 0, .int .u8 0, .int .u8 0, .int .u8 0, .int .u8 0, .int .u8 0, .int .u8 0, .int .u8 0, .int .u8 0, .int .u8 0, .int .u8 0, .int .u8 0, .int .u8 0, .slice none 0 0, .int .i64 0, .int .u64 0, .int .i64 0, .bool false] 104]) fun r H' => r = .int .i64 6 ∧ H' = [own b [.bool false, .int .u64 0, .string ⟨#[]⟩, .int .i64 0, .int .u8 0, .int .u8 0, .int .u8 0, .int .u8 0, .int .u8 0, .int .u8 0, .int .u8 0, .int .u8 0, .int .u8 0, .int .u8 0, .int .u8 0, .int .u8 0, .int .u8 0, .int .u8 0, .int .u8 0, .int .u8 0, .int .u8 0, .int .u8 0, .int .u8 0, .int .u8 0, .int .u8 0, .int .u8 0, .int .u8 0, .int .u8 0, .int .u8 0, .int .u8 0, .int .u8 0, .int .u8 0, .int .u8 0, .int .u8 0, .int .u8 0, .int .u8 0, .slice none 0 0, .int .i64 0, .int .u64 0, .int .i64 0, .bool false] 104] := by
  refine Does.go _ _ Try.func48 rfl Try.ntmps48 rfl rfl ?_
  refine Body.seq ?_
  refine Body.region ?_
  refine Ops.s (Stp.box (lk rfl) rfl (fun b3 => ?_)) rfl
  refine Ops.u (Dtu.asg (lk rfl)) rfl ?_
  refine Ops.nil ?_
  refine Then.next ?_
  refine Body.seq ?_
  refine Body.region ?_
  refine Ops.u (Dtu.mv (lk rfl)) rfl ?_
  refine Ops.d (Det.lda Try.isAgg86 Try.sizeOf86 (lk rfl) (Rds.ow (m := 2) 0 rfl rfl) rfl) rfl ?_
  refine Ops.s (Stp.callOwn [1] rfl rfl Try.call93 (lks rfl) (fun E' le hat => askZ_ok E' _ _ _) ?_) rfl
  rintro _ _ ⟨rfl, rfl⟩
  refine Ops.u (Dtu.asg (lk rfl)) rfl ?_
  refine Ops.nil ?_
  refine Then.next ?_
  refine Body.seq ?_
  refine Body.seq ?_
  refine Body.region ?_
  refine Ops.u (Dtu.mv (lk rfl)) rfl ?_
  refine Ops.u (Dtu.eql (lk rfl) (lk rfl)) rfl ?_
  refine Ops.nil ?_
  refine Then.next ?_
  refine Body.condP (lk rfl) (fun hy => absurd hy (by first | omega | assumption | decide)) (fun _ => ?_)
  refine Body.skip ?_
  refine Then.next ?_
  refine Body.seq ?_
  refine Body.region ?_
  refine Ops.u (Dtu.mv (lk rfl)) rfl ?_
  refine Ops.u (Dtu.asg (lk rfl)) rfl ?_
  refine Ops.nil ?_
  refine Then.next ?_
  refine Body.ret ?_
  exact ⟨.inr rfl, _, pk [0] rfl, rfl, rfl⟩
theorem StateZ_ok (E : Env) (b : Nat) : Does Try.prog 53 #[.pointer (some ⟨b, 0, none⟩)] E ([own b [.bool false, .int .u64 0, .string ⟨#[]⟩, .int .i64 0, .int .u8 0, .int .u8 0, .int .u8 0, .int .u8 0, .int .u8 0, .int .u8 0, .int .u8 0, .int .u8 0, .int .u8 0, .int .u8 0, .int .u8 0, .int .u8 0, .int .u8 0, .int .u8 0, .int .u8 0, .int .u8 0, .int .u8 0, .int .u8 0, .int .u8 0, .int .u8 0, .int .u8 0, .int .u8 0, .int .u8 0, .int .u8 0, .int .u8 0, .int .u8 0, .int .u8 0, .int .u8 0, .int .u8 0, .int .u8 0, .int .u8 0, .int .u8 0, .slice none 0 0, .int .i64 0, .int .u64 0, .int .i64 0, .bool false] 104]) fun r H' => r = .int .i64 0 ∧ H' = [own b [.bool false, .int .u64 0, .string ⟨#[]⟩, .int .i64 0, .int .u8 0, .int .u8 0, .int .u8 0, .int .u8 0, .int .u8 0, .int .u8 0, .int .u8 0, .int .u8 0, .int .u8 0, .int .u8 0, .int .u8 0, .int .u8 0, .int .u8 0, .int .u8 0, .int .u8 0, .int .u8 0, .int .u8 0, .int .u8 0, .int .u8 0, .int .u8 0, .int .u8 0, .int .u8 0, .int .u8 0, .int .u8 0, .int .u8 0, .int .u8 0, .int .u8 0, .int .u8 0, .int .u8 0, .int .u8 0, .int .u8 0, .int .u8 0, .slice none 0 0, .int .i64 0, .int .u64 0, .int .i64 0, .bool false] 104] := by
  refine Does.go _ _ Try.func53 rfl Try.ntmps53 rfl rfl ?_
  refine Body.seq ?_
  refine Body.region ?_
  refine Ops.u (Dtu.asg (lk rfl)) rfl ?_
  refine Ops.nil ?_
  refine Then.next ?_
  refine Body.seq ?_
  refine Body.block ?_
  refine Body.seq ?_
  refine Body.region ?_
  refine Ops.u (Dtu.mv (lk rfl)) rfl ?_
  refine Ops.u (Dtu.eqNil Try.underlying75 (lk rfl) (lk rfl)) rfl ?_
  refine Ops.u (Dtu.mv (lk rfl)) rfl ?_
  refine Ops.gu rfl rfl rfl (Dtu.mv (lk rfl)) rfl ?_
  refine Ops.gu rfl rfl rfl (Dtu.nilck (lk rfl)) rfl ?_
  refine Ops.gu rfl rfl rfl (Dtu.fld fa104_0 (lk rfl)) rfl ?_
  refine Ops.gd rfl rfl rfl (Det.ld Try.isAgg4 (lk rfl) (Rd.ow 0 rfl rfl)) rfl ?_
  refine Ops.gu rfl rfl rfl (Dtu.not (lk rfl)) rfl ?_
  refine Ops.u (Dtu.pickF (lk rfl) (lk rfl)) rfl ?_
  refine Ops.u (Dtu.asg (lk rfl)) rfl ?_
  refine Ops.nil ?_
  refine Then.next ?_
  refine Body.condT (lk rfl) ?_
  refine Body.seq ?_
  refine Body.region ?_
  refine Ops.u (Dtu.asg (lk rfl)) rfl ?_
  refine Ops.nil ?_
  refine Then.next ?_
  refine Body.ret ?_
  refine Blk.ret ?_
  refine Then.ret ?_
  exact ⟨.inr rfl, _, pk [0] rfl, rfl, rfl⟩
end Go.Proofs.Ytpmapedhigjalaa
end
section
/- FileLives: the walk. -/
namespace Go.Proofs.Ytpmapedhigjalaa
set_option maxRecDepth 100000
set_option maxHeartbeats 4000000
set_option linter.unusedVariables false
set_option linter.unusedSimpArgs false
open Go.Sx

structure FOp where
  k : Int
  n : Int
  x : Int
  deriving Inhabited
def FOp.enc (o : FOp) : List Value := [.int .i64 o.k, .int .i64 o.n, .int .u64 o.x]
theorem rpeek_y (E : Env) (q : Nat) (z : Snd) (ok : z.Ok) (bv : Value) (la : Option Addr) (lc : Nat) (hL : Sl E [] 1 (.slice la z.n lc) z.n (bls z.n z.x)) (hst : z.st = 0) : Does Try.prog 41 #[.pointer (some ⟨q, 0, none⟩), .bool false] E ([own q [bv, .slice la z.n lc, .int .i64 z.pos, .bool z.gone] 142]) fun r H' => r = .int .i64 z.nxt ∧ H' = [own q [bv, .slice la z.n lc, .int .i64 z.pos, .bool z.gone] 142] := by
  exact rnext_y E q z ok bv la lc hL false hst
theorem rgo_y (E : Env) (q : Nat) (z : Snd) (ok : z.Ok) (bv : Value) (la : Option Addr) (lc : Nat) (hL : Sl E [] 1 (.slice la z.n lc) z.n (bls z.n z.x)) (hst : z.st = 0) : Does Try.prog 41 #[.pointer (some ⟨q, 0, none⟩), .bool true] E ([own q [bv, .slice la z.n lc, .int .i64 z.pos, .bool z.gone] 142]) fun r H' => r = .int .i64 z.nxt ∧ H' = [own q [bv, .slice la z.gon.n lc, .int .i64 z.gon.pos, .bool z.gon.gone] 142] := by
  exact rnext_y E q z ok bv la lc hL true hst
theorem lcosts_m (E : Env) (b q : Nat) (z : Snd) (ok : z.Ok) (bv : Value) (hs : Sl E [] 1 bv z.bs.length (z.bs.map (.int .u8))) (la : Option Addr) (lc : Nat) (i : Nat) : Does Try.prog 43 #[.pointer (some ⟨b, 0, none⟩), .pointer (some ⟨q, 0, none⟩), .int .i64 ((i : Int).tmod 5)] E ([sndP b z, own q [bv, .slice la z.n lc, .int .i64 z.pos, .bool z.gone] 142, osl 4 1 (.slice la z.n lc) z.n (bls z.n z.x)]) fun r H' => r = .bool true ∧ H' = [sndP b z, own q [bv, .slice la z.n lc, .int .i64 z.pos, .bool z.gone] 142, osl 4 1 (.slice la z.n lc) z.n (bls z.n z.x)] := by
  exact lcosts_ok E b q z ok bv hs la lc (i % 5) (by omega)
theorem rcancel_t (E : Env) (q : Nat) (z : Snd) (ok : z.Ok) (bv : Value) (la : Option Addr) (lc : Nat) : Does Try.prog 50 #[.pointer (some ⟨q, 0, none⟩)] E ([own q [bv, .slice la z.n lc, .int .i64 z.pos, .bool z.gone] 142, osl 4 1 (.slice la z.n lc) z.n (bls z.n z.x)]) fun r H' => r = .int .i64 (if z.st = 0 then 0 else 7) ∧ H' = [own q [bv, .slice la z.cancel.n lc, .int .i64 z.cancel.pos, .bool z.cancel.gone] 142, osl 4 1 (.slice la z.cancel.n lc) z.cancel.n (bls z.cancel.n z.cancel.x)] := by
  refine Does.pst (Does.frm (Hc := [own q [bv, .slice la z.n lc, .int .i64 z.pos, .bool z.gone] 142]) (Hf := [osl 4 1 (.slice la z.n lc) z.n (bls z.n z.x)]) fun E' _ hat => rcancel_s E' q z ok bv la lc (Sl.at (hat _ (.head _)))) ?_
  rintro r H' ⟨A, ⟨rfl, rfl⟩, rfl⟩
  refine ⟨_, fun w s => s, rfl, ?_⟩
  by_cases h : z.st = 0
  · rw [show z.cancel = ⟨z.id, z.nm, z.bs, z.sm, z.x, z.pos, true⟩ by rw [Snd.cancel, if_pos h]]; rfl
  · rw [show z.cancel = z by rw [Snd.cancel, if_neg h]]; rfl
theorem Snd.gon_ok {z : Snd} (ok : z.Ok) : z.gon.Ok := ⟨ok.len, ok.x⟩
theorem Snd.know_ok {z : Snd} (ok : z.Ok) {n x : Int} (hx : U64 x) : (z.know n x).Ok := by
  unfold Snd.know; split
  · rename_i h
    obtain ⟨h1, h2, h3⟩ := askF_0 h
    exact ok.or hx h1 h2
  · exact ok
theorem Snd.anew_ok {z : Snd} (ok : z.Ok) {n x : Int} (hx : U64 x) : (z.anew n x).Ok := by
  unfold Snd.anew; split
  · rename_i h
    obtain ⟨h1, h2, h3⟩ := askF_0 h
    refine ⟨ok.len, ?_⟩
    have := bmR_lt h1 hx.1
    rw [h2, Int.toNat_natCast] at this
    exact this
  · exact ok
theorem Snd.cancel_ok {z : Snd} (ok : z.Ok) : z.cancel.Ok := by
  unfold Snd.cancel; split
  · exact ⟨ok.len, ok.x⟩
  · exact ok
def Snd.like (y z : Snd) : Prop := y.bs = z.bs ∧ y.id = z.id ∧ y.nm = z.nm ∧ y.sm = z.sm
theorem Snd.know_like (z : Snd) (n x : Int) : (z.know n x).like z := by unfold Snd.know; split <;> exact ⟨rfl, rfl, rfl, rfl⟩
theorem Snd.anew_like (z : Snd) (n x : Int) : (z.anew n x).like z := by unfold Snd.anew; split <;> exact ⟨rfl, rfl, rfl, rfl⟩
theorem Snd.cancel_like (z : Snd) : z.cancel.like z := by unfold Snd.cancel; split <;> exact ⟨rfl, rfl, rfl, rfl⟩
theorem Snd.gon_like (z : Snd) : z.gon.like z := ⟨rfl, rfl, rfl, rfl⟩
theorem Snd.like_refl (z : Snd) : z.like z := ⟨rfl, rfl, rfl, rfl⟩
theorem lives26_ok (E : Env) (id : Int) (nm : ByteArray) (bv : Value) (bs : List Int) (v : Value) (ops : List FOp) (hs : Sl E [] 1 bv bs.length (bs.map (.int .u8))) (hb : Byt bs) (hv : Sl E [] 3 v ops.length (ops.flatMap FOp.enc)) (hx : ∀ o ∈ ops, U64 o.x) : Does Try.prog 7 #[.int .u64 id, .string nm, bv, v] E ([]) fun r H' => r = .bool true ∧ H' = [] := by
  refine Does.pure hv.len fun hlen => ?_
  refine Does.pure hs.len fun hlb => ?_
  refine Does.pure (Sl.shape hs) fun ⟨a0, c0, hv0⟩ => ?_
  subst hv0
  by_cases hL : bs.length > 4200 ∨ nm.size > 60
  · refine Does.go _ _ Try.func7 rfl Try.ntmps7 rfl rfl ?_
    refine Body.seq ?_
    refine Body.region ?_
    refine Ops.u (Dtu.asg (lk rfl)) rfl ?_
    refine Ops.nil ?_
    refine Then.next ?_
    refine Body.seq ?_
    refine Body.seq ?_
    refine Body.region ?_
    refine Ops.u (Dtu.mv (lk rfl)) rfl ?_
    refine Ops.u (Dtu.lenS Try.underlying73 (Sl.up hs) (lk rfl)) rfl ?_
    refine Ops.u (Dtu.gtr (lk rfl) (lk rfl)) rfl ?_
    refine Ops.u (Dtu.mv (lk rfl)) rfl ?_
    refine Ops.decP 33 rfl (fun c33 => ?_) (fun c33 => ?_)
    · refine Ops.gn rfl rfl rfl rfl rfl ?_
      refine Ops.gn rfl rfl rfl rfl rfl ?_
      refine Ops.gn rfl rfl rfl rfl rfl ?_
      refine Ops.u (Dtu.pickT (lk rfl) (lk rfl)) rfl ?_
      refine Ops.nil ?_
      refine Then.next ?_
      refine Body.condT (lk rfl) ?_
      refine Body.seq ?_
      refine Body.region ?_
      refine Ops.s (Stp.call rfl Try.call36 (lks rfl) (fun E' le hat => alive26_ok E') ?_) rfl
      rintro _ _ ⟨rfl, rfl⟩
      refine Ops.u (Dtu.asg (lk rfl)) rfl ?_
      refine Ops.nil ?_
      refine Then.next ?_
      refine Body.ret ?_
      refine Then.ret ?_
      exact ⟨.inr rfl, _, pk [] rfl, rfl, rfl⟩
    · refine Ops.gu rfl rfl rfl (Dtu.mv (lk rfl)) rfl ?_
      refine Ops.gu rfl rfl rfl (Dtu.lenStr Try.underlying9 (lk rfl)) rfl ?_
      refine Ops.gu rfl rfl rfl (Dtu.gtr (lk rfl) (lk rfl)) rfl ?_
      refine Ops.u (Dtu.pickF (lk rfl) (lk rfl)) rfl ?_
      refine Ops.nil ?_
      refine Then.next ?_
      refine Body.condP (lk rfl) (fun _ => ?_) (fun hn => absurd (by first | omega | assumption | decide) hn)
      refine Body.seq ?_
      refine Body.region ?_
      refine Ops.s (Stp.call rfl Try.call36 (lks rfl) (fun E' le hat => alive26_ok E') ?_) rfl
      rintro _ _ ⟨rfl, rfl⟩
      refine Ops.u (Dtu.asg (lk rfl)) rfl ?_
      refine Ops.nil ?_
      refine Then.next ?_
      refine Body.ret ?_
      refine Then.ret ?_
      exact ⟨.inr rfl, _, pk [] rfl, rfl, rfl⟩
  by_cases hi : infoR id nm bs.length = true
  · have hb4 : bs.length ≤ 4096 := by have := of_decide_eq_true hi; omega
    refine Does.go _ _ Try.func7 rfl Try.ntmps7 rfl rfl ?_
    refine Body.seq ?_
    refine Body.region ?_
    refine Ops.u (Dtu.asg (lk rfl)) rfl ?_
    refine Ops.nil ?_
    refine Then.next ?_
    refine Body.seq ?_
    refine Body.seq ?_
    refine Body.region ?_
    refine Ops.u (Dtu.mv (lk rfl)) rfl ?_
    refine Ops.u (Dtu.lenS Try.underlying73 (Sl.up hs) (lk rfl)) rfl ?_
    refine Ops.u (Dtu.gtr (lk rfl) (lk rfl)) rfl ?_
    refine Ops.u (Dtu.mv (lk rfl)) rfl ?_
    refine Ops.decP 33 rfl (fun hy => absurd hy (by first | omega | assumption | decide)) (fun _ => ?_)
    refine Ops.gu rfl rfl rfl (Dtu.mv (lk rfl)) rfl ?_
    refine Ops.gu rfl rfl rfl (Dtu.lenStr Try.underlying9 (lk rfl)) rfl ?_
    refine Ops.gu rfl rfl rfl (Dtu.gtr (lk rfl) (lk rfl)) rfl ?_
    refine Ops.u (Dtu.pickF (lk rfl) (lk rfl)) rfl ?_
    refine Ops.nil ?_
    refine Then.next ?_
    refine Body.condP (lk rfl) (fun hy => absurd hy (by first | omega | assumption | decide)) (fun _ => ?_)
    refine Body.skip ?_
    refine Then.next ?_
    refine Body.seq ?_
    refine Body.region ?_
    refine Ops.u (Dtu.mv (lk rfl)) rfl ?_
    refine Ops.u (Dtu.mv (lk rfl)) rfl ?_
    refine Ops.u (Dtu.mv (lk rfl)) rfl ?_
    refine Ops.s (Stp.call rfl Try.call37 (lks rfl) (fun E' le hat => new_s E' _ _ _ _ (by first | exact Sl.mono (by assumption) le | exact Sl.hatI hat 0 rfl | exact Sl.hatI hat 1 rfl | exact Sl.hatI hat 2 rfl | exact Sl.hatI hat 3 rfl | exact Sl.hatI hat 4 rfl | exact Sl.hatI hat 5 rfl | exact Sl.hatI hat 6 rfl | exact Sl.hatI hat 7 rfl | exact Sl.hatI hat 8 rfl | exact Sl.hatI hat 9 rfl | exact Sl.hatI hat 10 rfl | exact Sl.hatI hat 11 rfl | exact Sl.hatI hat 12 rfl | exact Sl.hatI hat 13 rfl | exact Sl.hatI hat 14 rfl | exact Sl.hatI hat 15 rfl | exact Sl.hatW hat 0 rfl | exact Sl.hatW hat 1 rfl | exact Sl.hatW hat 2 rfl | exact Sl.hatW hat 3 rfl | exact Sl.hatW hat 4 rfl | exact Sl.hatW hat 5 rfl | exact Sl.hatW hat 6 rfl | exact Sl.hatW hat 7 rfl | exact Sl.hatW hat 8 rfl | exact Sl.hatW hat 9 rfl) (by first | assumption | omega) (by first | assumption | omega)) ?_) rfl
    rintro _ _ ⟨nb43, rfl, rfl⟩
    refine Ops.u (Dtu.mv (lk rfl)) rfl ?_
    refine Ops.u (Dtu.ext (lk rfl) rfl) rfl ?_
    refine Ops.u (Dtu.ext (lk rfl) rfl) rfl ?_
    refine Ops.u (Dtu.asg (lk rfl)) rfl ?_
    refine Ops.u (Dtu.asg (lk rfl)) rfl ?_
    refine Ops.nil ?_
    refine Then.next ?_
    refine Body.seq ?_
    refine Body.seq ?_
    refine Body.region ?_
    refine Ops.u (Dtu.mv (lk rfl)) rfl ?_
    refine Ops.u (Dtu.mv (lk rfl)) rfl ?_
    refine Ops.u (Dtu.mv (lk rfl)) rfl ?_
    refine Ops.u (Dtu.lenS Try.underlying73 (Sl.up hs) (lk rfl)) rfl ?_
    refine Ops.u (Dtu.build ty82 pl82 (lkp rfl) rfl rfl) rfl ?_
    refine Ops.s (Stp.call rfl Try.call38 (lks rfl) (fun E' le hat => sright_ok E' _ _ _ (fun _ => 0)) ?_) rfl
    rintro _ _ ⟨rfl, rfl⟩
    refine Ops.u (Dtu.not (lk rfl)) rfl ?_
    refine Ops.nil ?_
    refine Then.next ?_
    refine Body.cond (lk rfl) (fun hn => absurd hn (by first | (rw [hi]; decide) | simp [hi])) (fun _ => ?_)
    refine Body.skip ?_
    refine Then.next ?_
    refine Body.seq ?_
    refine Body.seq ?_
    refine Body.region ?_
    refine Ops.u (Dtu.mv (lk rfl)) rfl ?_
    refine Ops.u (Dtu.neq (lk rfl) (lk rfl)) rfl ?_
    refine Ops.u (Dtu.mv (lk rfl)) rfl ?_
    refine Ops.decP 64 rfl (fun hy => absurd hy (by first | omega | assumption | decide)) (fun _ => ?_)
    refine Ops.gu rfl rfl rfl (Dtu.mv (lk rfl)) rfl ?_
    refine Ops.gu rfl rfl rfl (Dtu.eqNil Try.underlying75 (lk rfl) (lk rfl)) rfl ?_
    refine Ops.u (Dtu.pickF (lk rfl) (lk rfl)) rfl ?_
    refine Ops.nil ?_
    refine Then.next ?_
    refine Body.condF (lk rfl) ?_
    refine Body.skip ?_
    refine Then.next ?_
    refine Body.seq ?_
    refine Body.region ?_
    refine Ops.u (Dtu.mv (lk rfl)) rfl ?_
    refine Ops.s (Stp.call rfl Try.call39 (lks rfl) (fun E' le hat => rnew_b E' _ _ _ (by first | assumption | omega)) ?_) rfl
    rintro _ _ ⟨rq69, rla69, rlc69, rfl, rfl⟩
    refine Ops.u (Dtu.asg (lk rfl)) rfl ?_
    refine Ops.nil ?_
    refine Then.next ?_
    refine Body.seq ?_
    refine Body.seq ?_
    refine Body.region ?_
    refine Ops.u (Dtu.asg (lk rfl)) rfl ?_
    refine Ops.nil ?_
    refine Then.next ?_
    refine Body.block ?_
    have hn0 : (Snd.new id nm bs).Ok := ⟨hb4, Nat.two_pow_pos _⟩
    refine Body.loopH (γ := Nat × Snd) rfl (fun p => [(12, .int .i64 p.1)]) (fun p => [(0, own rq69 [.slice a0 bs.length c0, .slice rla69 p.2.n rlc69, .int .i64 p.2.pos, .bool p.2.gone] 142), (1, osl 4 1 (.slice rla69 p.2.n rlc69) p.2.n (bls p.2.n p.2.x)), (2, sndP nb43 p.2)]) (fun p => (p.1 ≤ ops.length ∧ p.1 ≤ 60) ∧ p.2.Ok ∧ p.2.bs = bs ∧ p.2.id = id ∧ p.2.nm = nm ∧ p.2.sm = shaS bs) (fun p => 60 - p.1) ((0, Snd.new id nm bs)) (⟨by omega, hn0, rfl, rfl, rfl, rfl⟩) ⟨rfl, trivial⟩ rfl ?_
    rintro ⟨i, z⟩ u0 ⟨⟨hi1, hi2⟩, ok, hzb, hzi, hzn, hzs⟩
    dsimp only at hi1 hi2 ok hzb hzi hzn hzs ⊢
    subst hzb
    by_cases hlt : i < ops.length ∧ i < 60
    · have hlt1 := hlt.1
      have hlt2 := hlt.2
      have ho : ops[i]! ∈ ops := by rw [getElem!_pos ops i hlt.1]; exact List.getElem_mem _
      have hxo := hx _ ho
      by_cases hst : z.st = 0
      · have hci : z.nxt < (z.bs.length + 63) / 64 := Snd.nxt_lt ok hst
        have hch := Sl.chunkR hs hci
        have hch2 : Sl E [] 1 (subSl (.slice a0 z.bs.length c0) 1 (64 * z.nxt) (64 * z.nxt + lenN z.gon.bs.length z.nxt) (capOf (.slice a0 z.bs.length c0))) (lenN z.bs.length z.nxt) ((chunk z.bs z.nxt).map (.int .u8)) := hch
        refine Body.seq ?_
        refine Body.seq ?_
        refine Body.region ?_
        refine Ops.u (Dtu.mv (lk rfl)) rfl ?_
        refine Ops.u (Dtu.mv (lk rfl)) rfl ?_
        refine Ops.u (Dtu.lenS Try.underlying74 (Sl.up hv) (lk rfl)) rfl ?_
        refine Ops.u (Dtu.lss (lk rfl) (lk rfl)) rfl ?_
        refine Ops.u (Dtu.mv (lk rfl)) rfl ?_
        refine Ops.decP 74 rfl (fun _ => ?_) (fun hn => absurd (by first | omega | assumption | decide) hn)
        refine Ops.gu rfl rfl rfl (Dtu.mv (lk rfl)) rfl ?_
        refine Ops.gu rfl rfl rfl (Dtu.lss (lk rfl) (lk rfl)) rfl ?_
        refine Ops.u (Dtu.pickT (lk rfl) (lk rfl)) rfl ?_
        refine Ops.nil ?_
        refine Then.next ?_
        refine Body.condP (lk rfl) (fun _ => ?_) (fun hn => absurd (by first | omega | assumption | decide) hn)
        refine Body.skip ?_
        refine Then.next ?_
        refine Body.seq ?_
        refine Body.block ?_
        refine Body.seq ?_
        refine Body.region ?_
        refine Ops.u (Dtu.mv (lk rfl)) rfl ?_
        refine Ops.u (Dtu.mv (lk rfl)) rfl ?_
        refine Ops.u (Dtu.ix (i := (i)) Try.underlying74 Try.sizeOf88 (Sl.up hv) (lk rfl) (lk rfl) (by omega) (by omega)) rfl ?_
        refine Ops.d (Det.lda Try.isAgg88 Try.sizeOf88 (lk rfl) (Rds.sl (Sl.up hv) (gf (sz := 3) (fun _ => rfl) (by omega))) rfl) rfl ?_
        refine Ops.s (Stp.alloc ty88 (fun b13 => ?_)) rfl
        refine Ops.e (Stp.store 0 Try.sizeOf88 (lk rfl) (lk rfl) rfl rfl rfl rfl rfl rfl rfl ?_)
        refine Ops.nil ?_
        refine Then.next ?_
        refine Body.seq ?_
        refine Body.region ?_
        refine Ops.u (Dtu.mv (lk rfl)) rfl ?_
        refine Ops.s (Stp.callOwn [3] rfl rfl Try.call40 (lks rfl) (fun E' le hat => peek_s E' _ _ (by first | assumption | omega)) ?_) rfl
        rintro _ _ ⟨rfl, rfl⟩
        refine Ops.u (Dtu.mv (lk rfl)) rfl ?_
        refine Ops.u (Dtu.ext (lk rfl) rfl) rfl ?_
        refine Ops.u (Dtu.ext (lk rfl) rfl) rfl ?_
        refine Ops.u (Dtu.asg (lk rfl)) rfl ?_
        refine Ops.u (Dtu.asg (lk rfl)) rfl ?_
        refine Ops.nil ?_
        refine Then.next ?_
        refine Body.seq ?_
        refine Body.region ?_
        refine Ops.u (Dtu.mv (lk rfl)) rfl ?_
        refine Ops.s (Stp.callOwn [2] rfl rfl Try.call41 (lks rfl) (fun E' le hat => rpeek_y E' _ _ (by first | assumption | omega) _ _ _ (by first | exact Sl.mono (by assumption) le | exact Sl.hatI hat 0 rfl | exact Sl.hatI hat 1 rfl | exact Sl.hatI hat 2 rfl | exact Sl.hatI hat 3 rfl | exact Sl.hatI hat 4 rfl | exact Sl.hatI hat 5 rfl | exact Sl.hatI hat 6 rfl | exact Sl.hatI hat 7 rfl | exact Sl.hatI hat 8 rfl | exact Sl.hatI hat 9 rfl | exact Sl.hatI hat 10 rfl | exact Sl.hatI hat 11 rfl | exact Sl.hatI hat 12 rfl | exact Sl.hatI hat 13 rfl | exact Sl.hatI hat 14 rfl | exact Sl.hatI hat 15 rfl | exact Sl.hatW hat 0 rfl | exact Sl.hatW hat 1 rfl | exact Sl.hatW hat 2 rfl | exact Sl.hatW hat 3 rfl | exact Sl.hatW hat 4 rfl | exact Sl.hatW hat 5 rfl | exact Sl.hatW hat 6 rfl | exact Sl.hatW hat 7 rfl | exact Sl.hatW hat 8 rfl | exact Sl.hatW hat 9 rfl) (by first | assumption | omega)) ?_) rfl
        rintro _ _ ⟨rfl, rfl⟩
        refine Ops.u (Dtu.asg (lk rfl)) rfl ?_
        refine Ops.nil ?_
        refine Then.next ?_
        refine Body.seq ?_
        refine Body.seq ?_
        refine Body.region ?_
        refine Ops.u (Dtu.mv (lk rfl)) rfl ?_
        refine Ops.u (Dtu.mv (lk rfl)) rfl ?_
        refine Ops.u (Dtu.geq (lk rfl) (lk rfl)) rfl ?_
        refine Ops.u (Dtu.neB Try.underlying4 (lk rfl) (lk rfl)) rfl ?_
        refine Ops.u (Dtu.mv (lk rfl)) rfl ?_
        refine Ops.decP 95 rfl (fun hy => absurd hy (nbneOf rfl (decide_eq_true (by first | omega | assumption | decide)) rfl)) (fun _ => ?_)
        refine Ops.gu rfl rfl rfl (Dtu.mv (lk rfl)) rfl ?_
        refine Ops.gu rfl rfl rfl (Dtu.mv (lk rfl)) rfl ?_
        refine Ops.gu rfl rfl rfl (Dtu.mv (lk rfl)) rfl ?_
        refine Ops.gu rfl rfl rfl (Dtu.mv (lk rfl)) rfl ?_
        refine Ops.gu rfl rfl rfl (Dtu.mv (lk rfl)) rfl ?_
        refine Ops.gs rfl rfl rfl (Stp.callOwn [0] rfl rfl Try.call42 (lks rfl) (fun E' le hat => rbytesP E' _ _ (by first | assumption | omega) _ (by first | exact Sl.mono (by assumption) le | exact Sl.hatI hat 0 rfl | exact Sl.hatI hat 1 rfl | exact Sl.hatI hat 2 rfl | exact Sl.hatI hat 3 rfl | exact Sl.hatI hat 4 rfl | exact Sl.hatI hat 5 rfl | exact Sl.hatI hat 6 rfl | exact Sl.hatI hat 7 rfl | exact Sl.hatI hat 8 rfl | exact Sl.hatI hat 9 rfl | exact Sl.hatI hat 10 rfl | exact Sl.hatI hat 11 rfl | exact Sl.hatI hat 12 rfl | exact Sl.hatI hat 13 rfl | exact Sl.hatI hat 14 rfl | exact Sl.hatI hat 15 rfl | exact Sl.hatW hat 0 rfl | exact Sl.hatW hat 1 rfl | exact Sl.hatW hat 2 rfl | exact Sl.hatW hat 3 rfl | exact Sl.hatW hat 4 rfl | exact Sl.hatW hat 5 rfl | exact Sl.hatW hat 6 rfl | exact Sl.hatW hat 7 rfl | exact Sl.hatW hat 8 rfl | exact Sl.hatW hat 9 rfl) _ _ _ _ (by first | assumption | omega)) ?_) rfl
        rintro _ _ ⟨rfl, rfl⟩
        refine Ops.gu rfl rfl rfl (Dtu.lenS Try.underlying73 (Sl.up hch) (lk rfl)) rfl ?_
        refine Ops.gu rfl rfl rfl (Dtu.neq (lk rfl) (lk rfl)) rfl ?_
        refine Ops.gu rfl rfl rfl (Dtu.pickT (lk rfl) (lk rfl)) rfl ?_
        refine Ops.u (Dtu.pickF (lk rfl) (lk rfl)) rfl ?_
        refine Ops.u (Dtu.mv (lk rfl)) rfl ?_
        refine Ops.decP 106 rfl (fun hy => absurd hy (by first | omega | assumption | decide)) (fun _ => ?_)
        refine Ops.gu rfl rfl rfl (Dtu.mv (lk rfl)) rfl ?_
        refine Ops.gu rfl rfl rfl (Dtu.not (lk rfl)) rfl ?_
        refine Ops.gu rfl rfl rfl (Dtu.mv (lk rfl)) rfl ?_
        refine Ops.gn rfl rfl rfl rfl rfl ?_
        refine Ops.gn rfl rfl rfl rfl rfl ?_
        refine Ops.gu rfl rfl rfl (Dtu.pickF (lk rfl) (lk rfl)) rfl ?_
        refine Ops.u (Dtu.pickF (lk rfl) (lk rfl)) rfl ?_
        refine Ops.nil ?_
        refine Then.next ?_
        refine Body.condF (lk rfl) ?_
        refine Body.skip ?_
        refine Then.next ?_
        refine Body.seq ?_
        refine Body.seq ?_
        refine Body.region ?_
        refine Ops.u (Dtu.mv (lk rfl)) rfl ?_
        refine Ops.u (Dtu.mv (lk rfl)) rfl ?_
        refine Ops.u (Dtu.mv (lk rfl)) rfl ?_
        refine Ops.u (Dtu.rem (lk rfl) (lk rfl) (by first | decide | omega) rfl) rfl ?_
        refine Ops.s (Stp.callOwn [1, 0, 1] rfl rfl Try.call43 (lks rfl) (fun E' le hat => lcosts_m E' _ _ _ (by first | assumption | omega) _ (by first | exact Sl.mono (by assumption) le | exact Sl.hatI hat 0 rfl | exact Sl.hatI hat 1 rfl | exact Sl.hatI hat 2 rfl | exact Sl.hatI hat 3 rfl | exact Sl.hatI hat 4 rfl | exact Sl.hatI hat 5 rfl | exact Sl.hatI hat 6 rfl | exact Sl.hatI hat 7 rfl | exact Sl.hatI hat 8 rfl | exact Sl.hatI hat 9 rfl | exact Sl.hatI hat 10 rfl | exact Sl.hatI hat 11 rfl | exact Sl.hatI hat 12 rfl | exact Sl.hatI hat 13 rfl | exact Sl.hatI hat 14 rfl | exact Sl.hatI hat 15 rfl | exact Sl.hatW hat 0 rfl | exact Sl.hatW hat 1 rfl | exact Sl.hatW hat 2 rfl | exact Sl.hatW hat 3 rfl | exact Sl.hatW hat 4 rfl | exact Sl.hatW hat 5 rfl | exact Sl.hatW hat 6 rfl | exact Sl.hatW hat 7 rfl | exact Sl.hatW hat 8 rfl | exact Sl.hatW hat 9 rfl) _ _ _) ?_) rfl
        rintro _ _ ⟨rfl, rfl⟩
        refine Ops.u (Dtu.not (lk rfl)) rfl ?_
        refine Ops.nil ?_
        refine Then.next ?_
        refine Body.condF (lk rfl) ?_
        refine Body.skip ?_
        refine Then.next ?_
        refine Body.seq ?_
        refine Body.region ?_
        refine Ops.u (Dtu.fld fa88_1 (lk rfl)) rfl ?_
        refine Ops.u (Dtu.fld fa86_0 (lk rfl)) rfl ?_
        refine Ops.d (Det.ld Try.isAgg3 (lk rfl) (Rd.ow 3 rfl rfl)) rfl ?_
        refine Ops.u (Dtu.fld fa88_1 (lk rfl)) rfl ?_
        refine Ops.u (Dtu.fld fa86_1 (lk rfl)) rfl ?_
        refine Ops.d (Det.ld Try.isAgg72 (lk rfl) (Rd.ow 3 rfl rfl)) rfl ?_
        refine Ops.s (Stp.call rfl Try.call44 (lks rfl) (fun E' le hat => bof_ok E' _ _ (by first | assumption | omega)) ?_) rfl
        rintro _ _ ⟨_, _, rfl, rfl⟩
        refine Ops.u (Dtu.mv (lk rfl)) rfl ?_
        refine Ops.u (Dtu.ext (lk rfl) rfl) rfl ?_
        refine Ops.u (Dtu.ext (lk rfl) rfl) rfl ?_
        refine Ops.u (Dtu.asg (lk rfl)) rfl ?_
        refine Ops.u (Dtu.asg (lk rfl)) rfl ?_
        refine Ops.nil ?_
        refine Then.next ?_
        refine Body.seqJH (γ := Snd) rfl (fun y => []) (fun y => [(1, sndP nb43 y), (2, own rq69 [.slice a0 z.bs.length c0, .slice rla69 y.n rlc69, .int .i64 y.pos, .bool y.gone] 142), (3, osl 4 1 (.slice rla69 y.n rlc69) y.n (bls y.n y.x))]) (fun y => y.Ok ∧ y.like z) ?_ ?_
        · have okg := Snd.gon_ok ok
          refine Body.seq ?_
          refine Body.region ?_
          refine Ops.u (Dtu.fld fa88_0 (lk rfl)) rfl ?_
          refine Ops.d (Det.ld Try.isAgg3 (lk rfl) (Rd.ow 4 rfl rfl)) rfl ?_
          refine Ops.nil ?_
          refine Then.next ?_
          refine Body.block ?_
          refine Body.seq ?_
          refine Body.region ?_
          refine Ops.u (Dtu.eql (lk rfl) (lk rfl)) rfl ?_
          refine Ops.u (Dtu.asg (lk rfl)) rfl ?_
          refine Ops.nil ?_
          refine Then.next ?_
          refine Body.condP (lk rfl) (fun c132 => ?_) (fun c132 => ?_)
          · refine Body.seq ?_
            refine Body.region ?_
            refine Ops.u (Dtu.mv (lk rfl)) rfl ?_
            refine Ops.s (Stp.callOwn [1] rfl rfl Try.call45 (lks rfl) (fun E' le hat => next_s E' _ _ (by first | assumption | omega)) ?_) rfl
            rintro _ _ ⟨na136, nc136, rfl, rfl⟩
            refine Ops.u (Dtu.mv (lk rfl)) rfl ?_
            refine Ops.u (Dtu.ext (lk rfl) rfl) rfl ?_
            refine Ops.u (Dtu.ext (lk rfl) rfl) rfl ?_
            refine Ops.u (Dtu.ext (lk rfl) rfl) rfl ?_
            refine Ops.u (Dtu.asg (lk rfl)) rfl ?_
            refine Ops.u (Dtu.asg (lk rfl)) rfl ?_
            refine Ops.u (Dtu.asg (lk rfl)) rfl ?_
            refine Ops.nil ?_
            refine Then.next ?_
            refine Body.seq ?_
            refine Body.region ?_
            refine Ops.u (Dtu.mv (lk rfl)) rfl ?_
            refine Ops.s (Stp.callOwn [3] rfl rfl Try.call41 (lks rfl) (fun E' le hat => rgo_y E' _ _ (by first | assumption | omega) _ _ _ (by first | exact Sl.mono (by assumption) le | exact Sl.hatI hat 0 rfl | exact Sl.hatI hat 1 rfl | exact Sl.hatI hat 2 rfl | exact Sl.hatI hat 3 rfl | exact Sl.hatI hat 4 rfl | exact Sl.hatI hat 5 rfl | exact Sl.hatI hat 6 rfl | exact Sl.hatI hat 7 rfl | exact Sl.hatI hat 8 rfl | exact Sl.hatI hat 9 rfl | exact Sl.hatI hat 10 rfl | exact Sl.hatI hat 11 rfl | exact Sl.hatI hat 12 rfl | exact Sl.hatI hat 13 rfl | exact Sl.hatI hat 14 rfl | exact Sl.hatI hat 15 rfl | exact Sl.hatW hat 0 rfl | exact Sl.hatW hat 1 rfl | exact Sl.hatW hat 2 rfl | exact Sl.hatW hat 3 rfl | exact Sl.hatW hat 4 rfl | exact Sl.hatW hat 5 rfl | exact Sl.hatW hat 6 rfl | exact Sl.hatW hat 7 rfl | exact Sl.hatW hat 8 rfl | exact Sl.hatW hat 9 rfl) (by first | assumption | omega)) ?_) rfl
            rintro _ _ ⟨rfl, rfl⟩
            refine Ops.u (Dtu.asg (lk rfl)) rfl ?_
            refine Ops.nil ?_
            refine Then.next ?_
            refine Body.seq ?_
            refine Body.drawE [] mixed rfl ?_
            rintro E24' le24 -
            have hv_24 := Sl.mono hv le24
            have hs_24 := Sl.mono hs le24
            have hch_24 := Sl.mono hch le24
            have hch2_24 := Sl.mono hch2 le24
            refine AE.u 0 rfl (by decide +kernel) (Dtu.mv (lk rfl)) rfl ?_
            refine AE.u 1 rfl (by decide +kernel) (Dtu.mv (lk rfl)) rfl ?_
            refine AE.u 2 rfl (by decide +kernel) (Dtu.geq (lk rfl) (lk rfl)) rfl ?_
            refine AE.u 3 rfl (by decide +kernel) (Dtu.neB Try.underlying4 (lk rfl) (lk rfl)) rfl ?_
            refine AE.u 4 rfl (by decide +kernel) (Dtu.mv (lk rfl)) rfl ?_
            refine AE.decP 146 rfl (fun hy => absurd hy (nbneOf rfl (decide_eq_true (by first | omega | assumption | decide)) rfl)) (fun _ => ?_)
            refine AE.gu 5 rfl (by decide +kernel) rfl rfl rfl (Dtu.mv (lk rfl)) rfl ?_
            refine AE.gu 6 rfl (by decide +kernel) rfl rfl rfl (Dtu.mv (lk rfl)) rfl ?_
            refine AE.gu 7 rfl (by decide +kernel) rfl rfl rfl (Dtu.mv (lk rfl)) rfl ?_
            refine AE.gu 8 rfl (by decide +kernel) rfl rfl rfl (Dtu.mv (lk rfl)) rfl ?_
            refine AE.gu 9 rfl (by decide +kernel) rfl rfl rfl (Dtu.neq (lk rfl) (lk rfl)) rfl ?_
            refine AE.gu 10 rfl (by decide +kernel) rfl rfl rfl (Dtu.mv (lk rfl)) rfl ?_
            refine AE.decP 152 rfl (fun hy => absurd hy (by first | omega | assumption | decide)) (fun _ => ?_)
            refine AE.gu 11 rfl (by decide +kernel) rfl rfl rfl (Dtu.mv (lk rfl)) rfl ?_
            refine AE.gu 13 rfl (by decide +kernel) rfl rfl rfl (Dtu.mv (lk rfl)) rfl ?_
            refine AE.gu 14 rfl (by decide +kernel) rfl rfl rfl (Dtu.mv (lk rfl)) rfl ?_
            refine AE.more [12, 15] (by decide +kernel) rfl ⟨?_, ?_, trivial⟩
            · refine AEI.gd rfl rfl rfl rfl (Det.bstr Try.underlying73 Try.underlying5 Try.underlying9 (lk rfl) (Sl.osl 2 rfl)) rfl ?_
              refine AE.more [15] (by decide +kernel) rfl ⟨?_, trivial⟩
              refine AEI.gs rfl rfl rfl rfl (Stp.callOwn [0] rfl rfl Try.call42 (lks rfl) (fun E' le hat => rbytesP E' _ _ (by first | assumption | omega) _ (by first | exact Sl.mono (by assumption) le | exact Sl.hatI hat 0 rfl | exact Sl.hatI hat 1 rfl | exact Sl.hatI hat 2 rfl | exact Sl.hatI hat 3 rfl | exact Sl.hatI hat 4 rfl | exact Sl.hatI hat 5 rfl | exact Sl.hatI hat 6 rfl | exact Sl.hatI hat 7 rfl | exact Sl.hatI hat 8 rfl | exact Sl.hatI hat 9 rfl | exact Sl.hatI hat 10 rfl | exact Sl.hatI hat 11 rfl | exact Sl.hatI hat 12 rfl | exact Sl.hatI hat 13 rfl | exact Sl.hatI hat 14 rfl | exact Sl.hatI hat 15 rfl | exact Sl.hatW hat 0 rfl | exact Sl.hatW hat 1 rfl | exact Sl.hatW hat 2 rfl | exact Sl.hatW hat 3 rfl | exact Sl.hatW hat 4 rfl | exact Sl.hatW hat 5 rfl | exact Sl.hatW hat 6 rfl | exact Sl.hatW hat 7 rfl | exact Sl.hatW hat 8 rfl | exact Sl.hatW hat 9 rfl) _ _ _ _ (by first | assumption | omega)) ?_) rfl
              rintro _ _ ⟨rfl, rfl⟩
              refine AE.gd 16 rfl (by decide +kernel) rfl rfl rfl (Det.bstr Try.underlying73 Try.underlying5 Try.underlying9 (lk rfl) (Sl.up hch2_24)) rfl ?_
              refine AE.gu 17 rfl (by decide +kernel) rfl rfl rfl (Dtu.neStr (lk rfl) (lk rfl)) rfl ?_
              refine AE.gu 18 rfl (by decide +kernel) rfl rfl rfl (Dtu.pickF (lk rfl) (lk rfl)) rfl ?_
              refine AE.gu 19 rfl (by decide +kernel) rfl rfl rfl (Dtu.pickT (lk rfl) (lk rfl)) rfl ?_
              refine AE.u 20 rfl (by decide +kernel) (Dtu.pickF (lk rfl) (lk rfl)) rfl ?_
              refine AE.done (by decide +kernel) ?_
              refine Then.next ?_
              refine Body.condP (lk rfl) (fun c162 => ?_) (fun c162 => ?_)
              · refine Body.seq ?_
                refine Body.region ?_
                refine Ops.u (Dtu.asg (lk rfl)) rfl ?_
                refine Ops.nil ?_
                refine Then.next ?_
                refine Body.ret ?_
                refine Blk.ret ?_
                refine Joint.ret ?_
                refine Blk.ret ?_
                refine Then.ret ?_
                refine Round.ret ?_
                refine Blk.ret ?_
                refine Then.ret ?_
                exact absurd rfl c162
              · refine Body.skip ?_
                refine Blk.norm ?_
                refine Joint.goK [3, 1, 0, 1, 1] z.gon rfl rfl rfl trivial rfl rfl ⟨okg, Snd.gon_like z⟩
            · refine AEI.gs rfl rfl rfl rfl (Stp.callOwn [0] rfl rfl Try.call42 (lks rfl) (fun E' le hat => rbytesP E' _ _ (by first | assumption | omega) _ (by first | exact Sl.mono (by assumption) le | exact Sl.hatI hat 0 rfl | exact Sl.hatI hat 1 rfl | exact Sl.hatI hat 2 rfl | exact Sl.hatI hat 3 rfl | exact Sl.hatI hat 4 rfl | exact Sl.hatI hat 5 rfl | exact Sl.hatI hat 6 rfl | exact Sl.hatI hat 7 rfl | exact Sl.hatI hat 8 rfl | exact Sl.hatI hat 9 rfl | exact Sl.hatI hat 10 rfl | exact Sl.hatI hat 11 rfl | exact Sl.hatI hat 12 rfl | exact Sl.hatI hat 13 rfl | exact Sl.hatI hat 14 rfl | exact Sl.hatI hat 15 rfl | exact Sl.hatW hat 0 rfl | exact Sl.hatW hat 1 rfl | exact Sl.hatW hat 2 rfl | exact Sl.hatW hat 3 rfl | exact Sl.hatW hat 4 rfl | exact Sl.hatW hat 5 rfl | exact Sl.hatW hat 6 rfl | exact Sl.hatW hat 7 rfl | exact Sl.hatW hat 8 rfl | exact Sl.hatW hat 9 rfl) _ _ _ _ (by first | assumption | omega)) ?_) rfl
              rintro _ _ ⟨rfl, rfl⟩
              refine AE.gd 16 rfl (by decide +kernel) rfl rfl rfl (Det.bstr Try.underlying73 Try.underlying5 Try.underlying9 (lk rfl) (Sl.up hch2_24)) rfl ?_
              refine AE.more [12] (by decide +kernel) rfl ⟨?_, trivial⟩
              refine AEI.gd rfl rfl rfl rfl (Det.bstr Try.underlying73 Try.underlying5 Try.underlying9 (lk rfl) (Sl.osl 2 rfl)) rfl ?_
              refine AE.gu 17 rfl (by decide +kernel) rfl rfl rfl (Dtu.neStr (lk rfl) (lk rfl)) rfl ?_
              refine AE.gu 18 rfl (by decide +kernel) rfl rfl rfl (Dtu.pickF (lk rfl) (lk rfl)) rfl ?_
              refine AE.gu 19 rfl (by decide +kernel) rfl rfl rfl (Dtu.pickT (lk rfl) (lk rfl)) rfl ?_
              refine AE.u 20 rfl (by decide +kernel) (Dtu.pickF (lk rfl) (lk rfl)) rfl ?_
              refine AE.done (by decide +kernel) ?_
              refine Then.next ?_
              refine Body.condP (lk rfl) (fun c162 => ?_) (fun c162 => ?_)
              · refine Body.seq ?_
                refine Body.region ?_
                refine Ops.u (Dtu.asg (lk rfl)) rfl ?_
                refine Ops.nil ?_
                refine Then.next ?_
                refine Body.ret ?_
                refine Blk.ret ?_
                refine Joint.ret ?_
                refine Blk.ret ?_
                refine Then.ret ?_
                refine Round.ret ?_
                refine Blk.ret ?_
                refine Then.ret ?_
                exact absurd rfl c162
              · refine Body.skip ?_
                refine Blk.norm ?_
                refine Joint.goK [3, 1, 0, 1, 1] z.gon rfl rfl rfl trivial rfl rfl ⟨okg, Snd.gon_like z⟩
          · refine Body.seq ?_
            refine Body.region ?_
            refine Ops.u (Dtu.eql (lk rfl) (lk rfl)) rfl ?_
            refine Ops.u (Dtu.asg (lk rfl)) rfl ?_
            refine Ops.nil ?_
            refine Then.next ?_
            refine Body.condP (lk rfl) (fun c163 => ?_) (fun c163 => ?_)
            · refine Body.seq ?_
              refine Body.region ?_
              refine Ops.u (Dtu.mv (lk rfl)) rfl ?_
              refine Ops.u (Dtu.fld fa88_1 (lk rfl)) rfl ?_
              refine Ops.d (Det.lda Try.isAgg86 Try.sizeOf86 (lk rfl) (Rds.ow (m := 2) 4 rfl rfl) rfl) rfl ?_
              refine Ops.s (Stp.callOwn [1] rfl rfl Try.call46 (lks rfl) (fun E' le hat => know_s E' _ _ _ _ (by first | assumption | omega)) ?_) rfl
              rintro _ _ ⟨rfl, rfl⟩
              refine Ops.u (Dtu.mv (lk rfl)) rfl ?_
              refine Ops.u (Dtu.mv (lk rfl)) rfl ?_
              refine Ops.u (Dtu.mv (lk rfl)) rfl ?_
              refine Ops.s (Stp.callOwn [2, 2] rfl rfl Try.call47 (lks rfl) (fun E' le hat => rknow_s E' _ _ (by first | assumption | omega) _ _ _ _ _ (by first | assumption | omega) _ _ _ (by first | exact Sl.mono (by assumption) le | exact Sl.hatI hat 0 rfl | exact Sl.hatI hat 1 rfl | exact Sl.hatI hat 2 rfl | exact Sl.hatI hat 3 rfl | exact Sl.hatI hat 4 rfl | exact Sl.hatI hat 5 rfl | exact Sl.hatI hat 6 rfl | exact Sl.hatI hat 7 rfl | exact Sl.hatI hat 8 rfl | exact Sl.hatI hat 9 rfl | exact Sl.hatI hat 10 rfl | exact Sl.hatI hat 11 rfl | exact Sl.hatI hat 12 rfl | exact Sl.hatI hat 13 rfl | exact Sl.hatI hat 14 rfl | exact Sl.hatI hat 15 rfl | exact Sl.hatW hat 0 rfl | exact Sl.hatW hat 1 rfl | exact Sl.hatW hat 2 rfl | exact Sl.hatW hat 3 rfl | exact Sl.hatW hat 4 rfl | exact Sl.hatW hat 5 rfl | exact Sl.hatW hat 6 rfl | exact Sl.hatW hat 7 rfl | exact Sl.hatW hat 8 rfl | exact Sl.hatW hat 9 rfl)) ?_) rfl
              rintro _ _ ⟨rfl, rfl⟩
              refine Ops.u (Dtu.neq (lk rfl) (lk rfl)) rfl ?_
              refine Ops.nil ?_
              refine Then.next ?_
              refine Body.condP (lk rfl) (fun hy => absurd hy (by first | omega | assumption | decide)) (fun _ => ?_)
              refine Body.skip ?_
              refine Blk.norm ?_
              refine Joint.goK [3, 2, 0, 0, 0] (z.know ops[i]!.n ops[i]!.x) rfl rfl rfl trivial rfl rfl ⟨Snd.know_ok ok hxo, Snd.know_like z _ _⟩
            · refine Body.seq ?_
              refine Body.region ?_
              refine Ops.u (Dtu.eql (lk rfl) (lk rfl)) rfl ?_
              refine Ops.u (Dtu.asg (lk rfl)) rfl ?_
              refine Ops.nil ?_
              refine Then.next ?_
              refine Body.condP (lk rfl) (fun c174 => ?_) (fun c174 => ?_)
              · refine Body.seq ?_
                refine Body.region ?_
                refine Ops.u (Dtu.mv (lk rfl)) rfl ?_
                refine Ops.u (Dtu.fld fa88_1 (lk rfl)) rfl ?_
                refine Ops.d (Det.lda Try.isAgg86 Try.sizeOf86 (lk rfl) (Rds.ow (m := 2) 4 rfl rfl) rfl) rfl ?_
                refine Ops.s (Stp.callOwn [1] rfl rfl Try.call48 (lks rfl) (fun E' le hat => anew_s E' _ _ _ _ (by first | assumption | omega)) ?_) rfl
                rintro _ _ ⟨rfl, rfl⟩
                refine Ops.u (Dtu.mv (lk rfl)) rfl ?_
                refine Ops.u (Dtu.mv (lk rfl)) rfl ?_
                refine Ops.u (Dtu.mv (lk rfl)) rfl ?_
                refine Ops.s (Stp.callOwn [2, 2] rfl rfl Try.call47 (lks rfl) (fun E' le hat => rknow_s E' _ _ (by first | assumption | omega) _ _ _ _ _ (by first | assumption | omega) _ _ _ (by first | exact Sl.mono (by assumption) le | exact Sl.hatI hat 0 rfl | exact Sl.hatI hat 1 rfl | exact Sl.hatI hat 2 rfl | exact Sl.hatI hat 3 rfl | exact Sl.hatI hat 4 rfl | exact Sl.hatI hat 5 rfl | exact Sl.hatI hat 6 rfl | exact Sl.hatI hat 7 rfl | exact Sl.hatI hat 8 rfl | exact Sl.hatI hat 9 rfl | exact Sl.hatI hat 10 rfl | exact Sl.hatI hat 11 rfl | exact Sl.hatI hat 12 rfl | exact Sl.hatI hat 13 rfl | exact Sl.hatI hat 14 rfl | exact Sl.hatI hat 15 rfl | exact Sl.hatW hat 0 rfl | exact Sl.hatW hat 1 rfl | exact Sl.hatW hat 2 rfl | exact Sl.hatW hat 3 rfl | exact Sl.hatW hat 4 rfl | exact Sl.hatW hat 5 rfl | exact Sl.hatW hat 6 rfl | exact Sl.hatW hat 7 rfl | exact Sl.hatW hat 8 rfl | exact Sl.hatW hat 9 rfl)) ?_) rfl
                rintro _ _ ⟨rfl, rfl⟩
                refine Ops.u (Dtu.neq (lk rfl) (lk rfl)) rfl ?_
                refine Ops.nil ?_
                refine Then.next ?_
                refine Body.condP (lk rfl) (fun hy => absurd hy (by first | omega | assumption | decide)) (fun _ => ?_)
                refine Body.skip ?_
                refine Blk.norm ?_
                refine Joint.goK [3, 2, 0, 0, 0] (z.anew ops[i]!.n ops[i]!.x) rfl rfl rfl trivial rfl rfl ⟨Snd.anew_ok ok hxo, Snd.anew_like z _ _⟩
              · refine Body.seq ?_
                refine Body.region ?_
                refine Ops.u (Dtu.eql (lk rfl) (lk rfl)) rfl ?_
                refine Ops.u (Dtu.asg (lk rfl)) rfl ?_
                refine Ops.nil ?_
                refine Then.next ?_
                refine Body.condP (lk rfl) (fun c185 => ?_) (fun c185 => ?_)
                · refine Body.seq ?_
                  refine Body.region ?_
                  refine Ops.u (Dtu.mv (lk rfl)) rfl ?_
                  refine Ops.s (Stp.callOwn [1] rfl rfl Try.call49 (lks rfl) (fun E' le hat => cancel_s E' _ _) ?_) rfl
                  rintro _ _ ⟨rfl, rfl⟩
                  refine Ops.u (Dtu.mv (lk rfl)) rfl ?_
                  refine Ops.s (Stp.callOwn [2, 2] rfl rfl Try.call50 (lks rfl) (fun E' le hat => rcancel_t E' _ _ (by first | assumption | omega) _ _ _) ?_) rfl
                  rintro _ _ ⟨rfl, rfl⟩
                  refine Ops.u (Dtu.neq (lk rfl) (lk rfl)) rfl ?_
                  refine Ops.nil ?_
                  refine Then.next ?_
                  refine Body.condP (lk rfl) (fun hy => absurd hy (by first | omega | assumption | decide)) (fun _ => ?_)
                  refine Body.skip ?_
                  refine Blk.norm ?_
                  refine Joint.goK [3, 2, 0, 0, 0] z.cancel rfl rfl rfl trivial rfl rfl ⟨Snd.cancel_ok ok, Snd.cancel_like z⟩
                · refine Body.skip ?_
                  refine Blk.norm ?_
                  refine Joint.goK [0, 0, 0, 0, 0] z rfl rfl rfl trivial rfl rfl ⟨ok, Snd.like_refl z⟩
        rintro y u2 ⟨yok, yl1, yl2, yl3, yl4⟩
        refine Body.seq ?_
        refine Body.region ?_
        refine Ops.u (Dtu.mv (lk rfl)) rfl ?_
        refine Ops.s (Stp.callOwn [1] rfl rfl Try.call51 (lks rfl) (fun E' le hat => left_s E' _ _) ?_) rfl
        rintro _ _ ⟨rfl, rfl⟩
        refine Ops.u (Dtu.mv (lk rfl)) rfl ?_
        refine Ops.s (Stp.callOwn [2] rfl rfl Try.call52 (lks rfl) (fun E' le hat => rleft_b E' _ _ (by first | assumption | omega) _ _ _ (by first | exact Sl.mono (by assumption) le | exact Sl.hatI hat 0 rfl | exact Sl.hatI hat 1 rfl | exact Sl.hatI hat 2 rfl | exact Sl.hatI hat 3 rfl | exact Sl.hatI hat 4 rfl | exact Sl.hatI hat 5 rfl | exact Sl.hatI hat 6 rfl | exact Sl.hatI hat 7 rfl | exact Sl.hatI hat 8 rfl | exact Sl.hatI hat 9 rfl | exact Sl.hatI hat 10 rfl | exact Sl.hatI hat 11 rfl | exact Sl.hatI hat 12 rfl | exact Sl.hatI hat 13 rfl | exact Sl.hatI hat 14 rfl | exact Sl.hatI hat 15 rfl | exact Sl.hatW hat 0 rfl | exact Sl.hatW hat 1 rfl | exact Sl.hatW hat 2 rfl | exact Sl.hatW hat 3 rfl | exact Sl.hatW hat 4 rfl | exact Sl.hatW hat 5 rfl | exact Sl.hatW hat 6 rfl | exact Sl.hatW hat 7 rfl | exact Sl.hatW hat 8 rfl | exact Sl.hatW hat 9 rfl)) ?_) rfl
        rintro _ _ ⟨rfl, rfl⟩
        refine Ops.u (Dtu.neq (lk rfl) (lk rfl)) rfl ?_
        refine Ops.u (Dtu.mv (lk rfl)) rfl ?_
        refine Ops.decP 197 rfl (fun hy => absurd hy (by first | omega | assumption | decide)) (fun _ => ?_)
        refine Ops.gu rfl rfl rfl (Dtu.mv (lk rfl)) rfl ?_
        refine Ops.gs rfl rfl rfl (Stp.callOwn [1] rfl rfl Try.call53 (lks rfl) (fun E' le hat => state_s E' _ _) ?_) rfl
        rintro _ _ ⟨rfl, rfl⟩
        refine Ops.gu rfl rfl rfl (Dtu.mv (lk rfl)) rfl ?_
        refine Ops.gs rfl rfl rfl (Stp.callOwn [1] rfl rfl Try.call54 (lks rfl) (fun E' le hat => rstate_b E' _ _ (by first | assumption | omega) _ _ _ (by first | exact Sl.mono (by assumption) le | exact Sl.hatI hat 0 rfl | exact Sl.hatI hat 1 rfl | exact Sl.hatI hat 2 rfl | exact Sl.hatI hat 3 rfl | exact Sl.hatI hat 4 rfl | exact Sl.hatI hat 5 rfl | exact Sl.hatI hat 6 rfl | exact Sl.hatI hat 7 rfl | exact Sl.hatI hat 8 rfl | exact Sl.hatI hat 9 rfl | exact Sl.hatI hat 10 rfl | exact Sl.hatI hat 11 rfl | exact Sl.hatI hat 12 rfl | exact Sl.hatI hat 13 rfl | exact Sl.hatI hat 14 rfl | exact Sl.hatI hat 15 rfl | exact Sl.hatW hat 0 rfl | exact Sl.hatW hat 1 rfl | exact Sl.hatW hat 2 rfl | exact Sl.hatW hat 3 rfl | exact Sl.hatW hat 4 rfl | exact Sl.hatW hat 5 rfl | exact Sl.hatW hat 6 rfl | exact Sl.hatW hat 7 rfl | exact Sl.hatW hat 8 rfl | exact Sl.hatW hat 9 rfl)) ?_) rfl
        rintro _ _ ⟨rfl, rfl⟩
        refine Ops.gu rfl rfl rfl (Dtu.neq (lk rfl) (lk rfl)) rfl ?_
        refine Ops.u (Dtu.pickF (lk rfl) (lk rfl)) rfl ?_
        refine Ops.nil ?_
        refine Then.next ?_
        refine Body.condP (lk rfl) (fun hy => absurd hy (by first | omega | assumption | decide)) (fun _ => ?_)
        refine Body.skip ?_
        refine Blk.norm ?_
        refine Then.next ?_
        refine Body.region ?_
        refine Ops.u (Dtu.mv (lk rfl)) rfl ?_
        refine Ops.u (Dtu.add (lk rfl) (lk rfl) (w64 (by omega) (by omega))) rfl ?_
        refine Ops.u (Dtu.asg (lk rfl)) rfl ?_
        refine Ops.nil ?_
        refine Round.goK [0, 2, 0] (i + 1, y) rfl rfl rfl ⟨rfl, trivial⟩ rfl rfl ⟨⟨hlt1, hlt2⟩, yok, yl1, yl2.trans hzi, yl3.trans hzn, yl4.trans hzs⟩ (by dsimp only; omega)
      · refine Body.seq ?_
        refine Body.seq ?_
        refine Body.region ?_
        refine Ops.u (Dtu.mv (lk rfl)) rfl ?_
        refine Ops.u (Dtu.mv (lk rfl)) rfl ?_
        refine Ops.u (Dtu.lenS Try.underlying74 (Sl.up hv) (lk rfl)) rfl ?_
        refine Ops.u (Dtu.lss (lk rfl) (lk rfl)) rfl ?_
        refine Ops.u (Dtu.mv (lk rfl)) rfl ?_
        refine Ops.decP 74 rfl (fun _ => ?_) (fun hn => absurd (by first | omega | assumption | decide) hn)
        refine Ops.gu rfl rfl rfl (Dtu.mv (lk rfl)) rfl ?_
        refine Ops.gu rfl rfl rfl (Dtu.lss (lk rfl) (lk rfl)) rfl ?_
        refine Ops.u (Dtu.pickT (lk rfl) (lk rfl)) rfl ?_
        refine Ops.nil ?_
        refine Then.next ?_
        refine Body.condP (lk rfl) (fun _ => ?_) (fun hn => absurd (by first | omega | assumption | decide) hn)
        refine Body.skip ?_
        refine Then.next ?_
        refine Body.seq ?_
        refine Body.block ?_
        refine Body.seq ?_
        refine Body.region ?_
        refine Ops.u (Dtu.mv (lk rfl)) rfl ?_
        refine Ops.u (Dtu.mv (lk rfl)) rfl ?_
        refine Ops.u (Dtu.ix (i := (i)) Try.underlying74 Try.sizeOf88 (Sl.up hv) (lk rfl) (lk rfl) (by omega) (by omega)) rfl ?_
        refine Ops.d (Det.lda Try.isAgg88 Try.sizeOf88 (lk rfl) (Rds.sl (Sl.up hv) (gf (sz := 3) (fun _ => rfl) (by omega))) rfl) rfl ?_
        refine Ops.s (Stp.alloc ty88 (fun b13 => ?_)) rfl
        refine Ops.e (Stp.store 0 Try.sizeOf88 (lk rfl) (lk rfl) rfl rfl rfl rfl rfl rfl rfl ?_)
        refine Ops.nil ?_
        refine Then.next ?_
        refine Body.seq ?_
        refine Body.region ?_
        refine Ops.u (Dtu.mv (lk rfl)) rfl ?_
        refine Ops.s (Stp.callOwn [3] rfl rfl Try.call40 (lks rfl) (fun E' le hat => peek_sn E' _ _ (by first | assumption | omega)) ?_) rfl
        rintro _ _ ⟨rfl, rfl⟩
        refine Ops.u (Dtu.mv (lk rfl)) rfl ?_
        refine Ops.u (Dtu.ext (lk rfl) rfl) rfl ?_
        refine Ops.u (Dtu.ext (lk rfl) rfl) rfl ?_
        refine Ops.u (Dtu.asg (lk rfl)) rfl ?_
        refine Ops.u (Dtu.asg (lk rfl)) rfl ?_
        refine Ops.nil ?_
        refine Then.next ?_
        refine Body.seq ?_
        refine Body.region ?_
        refine Ops.u (Dtu.mv (lk rfl)) rfl ?_
        refine Ops.s (Stp.callOwn [2] rfl rfl Try.call41 (lks rfl) (fun E' le hat => rnext_n E' _ _ (by first | assumption | omega) _ _ _ (by first | exact Sl.mono (by assumption) le | exact Sl.hatI hat 0 rfl | exact Sl.hatI hat 1 rfl | exact Sl.hatI hat 2 rfl | exact Sl.hatI hat 3 rfl | exact Sl.hatI hat 4 rfl | exact Sl.hatI hat 5 rfl | exact Sl.hatI hat 6 rfl | exact Sl.hatI hat 7 rfl | exact Sl.hatI hat 8 rfl | exact Sl.hatI hat 9 rfl | exact Sl.hatI hat 10 rfl | exact Sl.hatI hat 11 rfl | exact Sl.hatI hat 12 rfl | exact Sl.hatI hat 13 rfl | exact Sl.hatI hat 14 rfl | exact Sl.hatI hat 15 rfl | exact Sl.hatW hat 0 rfl | exact Sl.hatW hat 1 rfl | exact Sl.hatW hat 2 rfl | exact Sl.hatW hat 3 rfl | exact Sl.hatW hat 4 rfl | exact Sl.hatW hat 5 rfl | exact Sl.hatW hat 6 rfl | exact Sl.hatW hat 7 rfl | exact Sl.hatW hat 8 rfl | exact Sl.hatW hat 9 rfl) _ (by first | assumption | omega)) ?_) rfl
        rintro _ _ ⟨rfl, rfl⟩
        refine Ops.u (Dtu.asg (lk rfl)) rfl ?_
        refine Ops.nil ?_
        refine Then.next ?_
        refine Body.seq ?_
        refine Body.seq ?_
        refine Body.region ?_
        refine Ops.u (Dtu.mv (lk rfl)) rfl ?_
        refine Ops.u (Dtu.mv (lk rfl)) rfl ?_
        refine Ops.u (Dtu.geq (lk rfl) (lk rfl)) rfl ?_
        refine Ops.u (Dtu.neB Try.underlying4 (lk rfl) (lk rfl)) rfl ?_
        refine Ops.u (Dtu.mv (lk rfl)) rfl ?_
        refine Ops.decP 95 rfl (fun hy => absurd hy (nbneOf rfl (decide_eq_false (by first | omega | assumption | decide)) rfl)) (fun _ => ?_)
        refine Ops.gu rfl rfl rfl (Dtu.mv (lk rfl)) rfl ?_
        refine Ops.gu rfl rfl rfl (Dtu.mv (lk rfl)) rfl ?_
        refine Ops.gn rfl rfl rfl rfl rfl ?_
        refine Ops.gn rfl rfl rfl rfl rfl ?_
        refine Ops.gn rfl rfl rfl rfl rfl ?_
        refine Ops.gn rfl rfl rfl rfl rfl ?_
        refine Ops.gn rfl rfl rfl rfl rfl ?_
        refine Ops.gn rfl rfl rfl rfl rfl ?_
        refine Ops.gu rfl rfl rfl (Dtu.pickF (lk rfl) (lk rfl)) rfl ?_
        refine Ops.u (Dtu.pickF (lk rfl) (lk rfl)) rfl ?_
        refine Ops.u (Dtu.mv (lk rfl)) rfl ?_
        refine Ops.gu rfl rfl rfl (Dtu.mv (lk rfl)) rfl ?_
        refine Ops.gu rfl rfl rfl (Dtu.not (lk rfl)) rfl ?_
        refine Ops.gu rfl rfl rfl (Dtu.mv (lk rfl)) rfl ?_
        refine Ops.gu rfl rfl rfl (Dtu.mv (lk rfl)) rfl ?_
        refine Ops.gu rfl rfl rfl (Dtu.neq (lk rfl) (lk rfl)) rfl ?_
        refine Ops.gu rfl rfl rfl (Dtu.pickT (lk rfl) (lk rfl)) rfl ?_
        refine Ops.u (Dtu.pickF (lk rfl) (lk rfl)) rfl ?_
        refine Ops.nil ?_
        refine Then.next ?_
        refine Body.condP (lk rfl) (fun hy => absurd hy (by first | omega | assumption | decide)) (fun _ => ?_)
        refine Body.skip ?_
        refine Then.next ?_
        refine Body.seq ?_
        refine Body.seq ?_
        refine Body.region ?_
        refine Ops.u (Dtu.mv (lk rfl)) rfl ?_
        refine Ops.u (Dtu.mv (lk rfl)) rfl ?_
        refine Ops.u (Dtu.mv (lk rfl)) rfl ?_
        refine Ops.u (Dtu.rem (lk rfl) (lk rfl) (by first | decide | omega) rfl) rfl ?_
        refine Ops.s (Stp.callOwn [1, 0, 1] rfl rfl Try.call43 (lks rfl) (fun E' le hat => lcosts_m E' _ _ _ (by first | assumption | omega) _ (by first | exact Sl.mono (by assumption) le | exact Sl.hatI hat 0 rfl | exact Sl.hatI hat 1 rfl | exact Sl.hatI hat 2 rfl | exact Sl.hatI hat 3 rfl | exact Sl.hatI hat 4 rfl | exact Sl.hatI hat 5 rfl | exact Sl.hatI hat 6 rfl | exact Sl.hatI hat 7 rfl | exact Sl.hatI hat 8 rfl | exact Sl.hatI hat 9 rfl | exact Sl.hatI hat 10 rfl | exact Sl.hatI hat 11 rfl | exact Sl.hatI hat 12 rfl | exact Sl.hatI hat 13 rfl | exact Sl.hatI hat 14 rfl | exact Sl.hatI hat 15 rfl | exact Sl.hatW hat 0 rfl | exact Sl.hatW hat 1 rfl | exact Sl.hatW hat 2 rfl | exact Sl.hatW hat 3 rfl | exact Sl.hatW hat 4 rfl | exact Sl.hatW hat 5 rfl | exact Sl.hatW hat 6 rfl | exact Sl.hatW hat 7 rfl | exact Sl.hatW hat 8 rfl | exact Sl.hatW hat 9 rfl) _ _ _) ?_) rfl
        rintro _ _ ⟨rfl, rfl⟩
        refine Ops.u (Dtu.not (lk rfl)) rfl ?_
        refine Ops.nil ?_
        refine Then.next ?_
        refine Body.condF (lk rfl) ?_
        refine Body.skip ?_
        refine Then.next ?_
        refine Body.seq ?_
        refine Body.region ?_
        refine Ops.u (Dtu.fld fa88_1 (lk rfl)) rfl ?_
        refine Ops.u (Dtu.fld fa86_0 (lk rfl)) rfl ?_
        refine Ops.d (Det.ld Try.isAgg3 (lk rfl) (Rd.ow 3 rfl rfl)) rfl ?_
        refine Ops.u (Dtu.fld fa88_1 (lk rfl)) rfl ?_
        refine Ops.u (Dtu.fld fa86_1 (lk rfl)) rfl ?_
        refine Ops.d (Det.ld Try.isAgg72 (lk rfl) (Rd.ow 3 rfl rfl)) rfl ?_
        refine Ops.s (Stp.call rfl Try.call44 (lks rfl) (fun E' le hat => bof_ok E' _ _ (by first | assumption | omega)) ?_) rfl
        rintro _ _ ⟨_, _, rfl, rfl⟩
        refine Ops.u (Dtu.mv (lk rfl)) rfl ?_
        refine Ops.u (Dtu.ext (lk rfl) rfl) rfl ?_
        refine Ops.u (Dtu.ext (lk rfl) rfl) rfl ?_
        refine Ops.u (Dtu.asg (lk rfl)) rfl ?_
        refine Ops.u (Dtu.asg (lk rfl)) rfl ?_
        refine Ops.nil ?_
        refine Then.next ?_
        refine Body.seqJH (γ := Snd) rfl (fun y => []) (fun y => [(1, sndP nb43 y), (2, own rq69 [.slice a0 z.bs.length c0, .slice rla69 y.n rlc69, .int .i64 y.pos, .bool y.gone] 142), (3, osl 4 1 (.slice rla69 y.n rlc69) y.n (bls y.n y.x))]) (fun y => y.Ok ∧ y.like z) ?_ ?_
        · refine Body.seq ?_
          refine Body.region ?_
          refine Ops.u (Dtu.fld fa88_0 (lk rfl)) rfl ?_
          refine Ops.d (Det.ld Try.isAgg3 (lk rfl) (Rd.ow 4 rfl rfl)) rfl ?_
          refine Ops.nil ?_
          refine Then.next ?_
          refine Body.block ?_
          refine Body.seq ?_
          refine Body.region ?_
          refine Ops.u (Dtu.eql (lk rfl) (lk rfl)) rfl ?_
          refine Ops.u (Dtu.asg (lk rfl)) rfl ?_
          refine Ops.nil ?_
          refine Then.next ?_
          refine Body.condP (lk rfl) (fun c132 => ?_) (fun c132 => ?_)
          · refine Body.seq ?_
            refine Body.region ?_
            refine Ops.u (Dtu.mv (lk rfl)) rfl ?_
            refine Ops.s (Stp.callOwn [1] rfl rfl Try.call45 (lks rfl) (fun E' le hat => next_sn E' _ _ (by first | assumption | omega)) ?_) rfl
            rintro _ _ ⟨rfl, rfl⟩
            refine Ops.u (Dtu.mv (lk rfl)) rfl ?_
            refine Ops.u (Dtu.ext (lk rfl) rfl) rfl ?_
            refine Ops.u (Dtu.ext (lk rfl) rfl) rfl ?_
            refine Ops.u (Dtu.ext (lk rfl) rfl) rfl ?_
            refine Ops.u (Dtu.asg (lk rfl)) rfl ?_
            refine Ops.u (Dtu.asg (lk rfl)) rfl ?_
            refine Ops.u (Dtu.asg (lk rfl)) rfl ?_
            refine Ops.nil ?_
            refine Then.next ?_
            refine Body.seq ?_
            refine Body.region ?_
            refine Ops.u (Dtu.mv (lk rfl)) rfl ?_
            refine Ops.s (Stp.callOwn [2] rfl rfl Try.call41 (lks rfl) (fun E' le hat => rnext_n E' _ _ (by first | assumption | omega) _ _ _ (by first | exact Sl.mono (by assumption) le | exact Sl.hatI hat 0 rfl | exact Sl.hatI hat 1 rfl | exact Sl.hatI hat 2 rfl | exact Sl.hatI hat 3 rfl | exact Sl.hatI hat 4 rfl | exact Sl.hatI hat 5 rfl | exact Sl.hatI hat 6 rfl | exact Sl.hatI hat 7 rfl | exact Sl.hatI hat 8 rfl | exact Sl.hatI hat 9 rfl | exact Sl.hatI hat 10 rfl | exact Sl.hatI hat 11 rfl | exact Sl.hatI hat 12 rfl | exact Sl.hatI hat 13 rfl | exact Sl.hatI hat 14 rfl | exact Sl.hatI hat 15 rfl | exact Sl.hatW hat 0 rfl | exact Sl.hatW hat 1 rfl | exact Sl.hatW hat 2 rfl | exact Sl.hatW hat 3 rfl | exact Sl.hatW hat 4 rfl | exact Sl.hatW hat 5 rfl | exact Sl.hatW hat 6 rfl | exact Sl.hatW hat 7 rfl | exact Sl.hatW hat 8 rfl | exact Sl.hatW hat 9 rfl) _ (by first | assumption | omega)) ?_) rfl
            rintro _ _ ⟨rfl, rfl⟩
            refine Ops.u (Dtu.asg (lk rfl)) rfl ?_
            refine Ops.nil ?_
            refine Then.next ?_
            refine Body.seq ?_
            refine Body.drawE [] mixed rfl ?_
            rintro E24' le24 -
            have hv_24 := Sl.mono hv le24
            have hs_24 := Sl.mono hs le24
            refine AE.u 0 rfl (by decide +kernel) (Dtu.mv (lk rfl)) rfl ?_
            refine AE.u 1 rfl (by decide +kernel) (Dtu.mv (lk rfl)) rfl ?_
            refine AE.u 2 rfl (by decide +kernel) (Dtu.geq (lk rfl) (lk rfl)) rfl ?_
            refine AE.u 3 rfl (by decide +kernel) (Dtu.neB Try.underlying4 (lk rfl) (lk rfl)) rfl ?_
            refine AE.u 4 rfl (by decide +kernel) (Dtu.mv (lk rfl)) rfl ?_
            refine AE.decP 146 rfl (fun hy => absurd hy (nbneOf rfl (decide_eq_false (by first | omega | assumption | decide)) rfl)) (fun _ => ?_)
            refine AE.gu 5 rfl (by decide +kernel) rfl rfl rfl (Dtu.mv (lk rfl)) rfl ?_
            refine AE.gu 6 rfl (by decide +kernel) rfl rfl rfl (Dtu.mv (lk rfl)) rfl ?_
            refine AE.gn 7 rfl (by decide +kernel) rfl rfl rfl rfl rfl ?_
            refine AE.gn 8 rfl (by decide +kernel) rfl rfl rfl rfl rfl ?_
            refine AE.gn 9 rfl (by decide +kernel) rfl rfl rfl rfl rfl ?_
            refine AE.gn 10 rfl (by decide +kernel) rfl rfl rfl rfl rfl ?_
            refine AE.gn 11 rfl (by decide +kernel) rfl rfl rfl rfl rfl ?_
            refine AE.gn 12 rfl (by decide +kernel) rfl rfl rfl rfl rfl ?_
            refine AE.gn 13 rfl (by decide +kernel) rfl rfl rfl rfl rfl ?_
            refine AE.gn 14 rfl (by decide +kernel) rfl rfl rfl rfl rfl ?_
            refine AE.gn 15 rfl (by decide +kernel) rfl rfl rfl rfl rfl ?_
            refine AE.gn 16 rfl (by decide +kernel) rfl rfl rfl rfl rfl ?_
            refine AE.gn 17 rfl (by decide +kernel) rfl rfl rfl rfl rfl ?_
            refine AE.gn 18 rfl (by decide +kernel) rfl rfl rfl rfl rfl ?_
            refine AE.gu 19 rfl (by decide +kernel) rfl rfl rfl (Dtu.pickF (lk rfl) (lk rfl)) rfl ?_
            refine AE.u 20 rfl (by decide +kernel) (Dtu.pickF (lk rfl) (lk rfl)) rfl ?_
            refine AE.done (by decide +kernel) ?_
            refine Then.next ?_
            refine Body.condF (lk rfl) ?_
            refine Body.skip ?_
            refine Blk.norm ?_
            refine Joint.goK [2, 1, 0, 0, 0] z rfl rfl rfl trivial rfl rfl ⟨ok, Snd.like_refl z⟩
          · refine Body.seq ?_
            refine Body.region ?_
            refine Ops.u (Dtu.eql (lk rfl) (lk rfl)) rfl ?_
            refine Ops.u (Dtu.asg (lk rfl)) rfl ?_
            refine Ops.nil ?_
            refine Then.next ?_
            refine Body.condP (lk rfl) (fun c163 => ?_) (fun c163 => ?_)
            · refine Body.seq ?_
              refine Body.region ?_
              refine Ops.u (Dtu.mv (lk rfl)) rfl ?_
              refine Ops.u (Dtu.fld fa88_1 (lk rfl)) rfl ?_
              refine Ops.d (Det.lda Try.isAgg86 Try.sizeOf86 (lk rfl) (Rds.ow (m := 2) 4 rfl rfl) rfl) rfl ?_
              refine Ops.s (Stp.callOwn [1] rfl rfl Try.call46 (lks rfl) (fun E' le hat => know_s E' _ _ _ _ (by first | assumption | omega)) ?_) rfl
              rintro _ _ ⟨rfl, rfl⟩
              refine Ops.u (Dtu.mv (lk rfl)) rfl ?_
              refine Ops.u (Dtu.mv (lk rfl)) rfl ?_
              refine Ops.u (Dtu.mv (lk rfl)) rfl ?_
              refine Ops.s (Stp.callOwn [2, 2] rfl rfl Try.call47 (lks rfl) (fun E' le hat => rknow_s E' _ _ (by first | assumption | omega) _ _ _ _ _ (by first | assumption | omega) _ _ _ (by first | exact Sl.mono (by assumption) le | exact Sl.hatI hat 0 rfl | exact Sl.hatI hat 1 rfl | exact Sl.hatI hat 2 rfl | exact Sl.hatI hat 3 rfl | exact Sl.hatI hat 4 rfl | exact Sl.hatI hat 5 rfl | exact Sl.hatI hat 6 rfl | exact Sl.hatI hat 7 rfl | exact Sl.hatI hat 8 rfl | exact Sl.hatI hat 9 rfl | exact Sl.hatI hat 10 rfl | exact Sl.hatI hat 11 rfl | exact Sl.hatI hat 12 rfl | exact Sl.hatI hat 13 rfl | exact Sl.hatI hat 14 rfl | exact Sl.hatI hat 15 rfl | exact Sl.hatW hat 0 rfl | exact Sl.hatW hat 1 rfl | exact Sl.hatW hat 2 rfl | exact Sl.hatW hat 3 rfl | exact Sl.hatW hat 4 rfl | exact Sl.hatW hat 5 rfl | exact Sl.hatW hat 6 rfl | exact Sl.hatW hat 7 rfl | exact Sl.hatW hat 8 rfl | exact Sl.hatW hat 9 rfl)) ?_) rfl
              rintro _ _ ⟨rfl, rfl⟩
              refine Ops.u (Dtu.neq (lk rfl) (lk rfl)) rfl ?_
              refine Ops.nil ?_
              refine Then.next ?_
              refine Body.condP (lk rfl) (fun hy => absurd hy (by first | omega | assumption | decide)) (fun _ => ?_)
              refine Body.skip ?_
              refine Blk.norm ?_
              refine Joint.goK [3, 2, 0, 0, 0] (z.know ops[i]!.n ops[i]!.x) rfl rfl rfl trivial rfl rfl ⟨Snd.know_ok ok hxo, Snd.know_like z _ _⟩
            · refine Body.seq ?_
              refine Body.region ?_
              refine Ops.u (Dtu.eql (lk rfl) (lk rfl)) rfl ?_
              refine Ops.u (Dtu.asg (lk rfl)) rfl ?_
              refine Ops.nil ?_
              refine Then.next ?_
              refine Body.condP (lk rfl) (fun c174 => ?_) (fun c174 => ?_)
              · refine Body.seq ?_
                refine Body.region ?_
                refine Ops.u (Dtu.mv (lk rfl)) rfl ?_
                refine Ops.u (Dtu.fld fa88_1 (lk rfl)) rfl ?_
                refine Ops.d (Det.lda Try.isAgg86 Try.sizeOf86 (lk rfl) (Rds.ow (m := 2) 4 rfl rfl) rfl) rfl ?_
                refine Ops.s (Stp.callOwn [1] rfl rfl Try.call48 (lks rfl) (fun E' le hat => anew_s E' _ _ _ _ (by first | assumption | omega)) ?_) rfl
                rintro _ _ ⟨rfl, rfl⟩
                refine Ops.u (Dtu.mv (lk rfl)) rfl ?_
                refine Ops.u (Dtu.mv (lk rfl)) rfl ?_
                refine Ops.u (Dtu.mv (lk rfl)) rfl ?_
                refine Ops.s (Stp.callOwn [2, 2] rfl rfl Try.call47 (lks rfl) (fun E' le hat => rknow_s E' _ _ (by first | assumption | omega) _ _ _ _ _ (by first | assumption | omega) _ _ _ (by first | exact Sl.mono (by assumption) le | exact Sl.hatI hat 0 rfl | exact Sl.hatI hat 1 rfl | exact Sl.hatI hat 2 rfl | exact Sl.hatI hat 3 rfl | exact Sl.hatI hat 4 rfl | exact Sl.hatI hat 5 rfl | exact Sl.hatI hat 6 rfl | exact Sl.hatI hat 7 rfl | exact Sl.hatI hat 8 rfl | exact Sl.hatI hat 9 rfl | exact Sl.hatI hat 10 rfl | exact Sl.hatI hat 11 rfl | exact Sl.hatI hat 12 rfl | exact Sl.hatI hat 13 rfl | exact Sl.hatI hat 14 rfl | exact Sl.hatI hat 15 rfl | exact Sl.hatW hat 0 rfl | exact Sl.hatW hat 1 rfl | exact Sl.hatW hat 2 rfl | exact Sl.hatW hat 3 rfl | exact Sl.hatW hat 4 rfl | exact Sl.hatW hat 5 rfl | exact Sl.hatW hat 6 rfl | exact Sl.hatW hat 7 rfl | exact Sl.hatW hat 8 rfl | exact Sl.hatW hat 9 rfl)) ?_) rfl
                rintro _ _ ⟨rfl, rfl⟩
                refine Ops.u (Dtu.neq (lk rfl) (lk rfl)) rfl ?_
                refine Ops.nil ?_
                refine Then.next ?_
                refine Body.condP (lk rfl) (fun hy => absurd hy (by first | omega | assumption | decide)) (fun _ => ?_)
                refine Body.skip ?_
                refine Blk.norm ?_
                refine Joint.goK [3, 2, 0, 0, 0] (z.anew ops[i]!.n ops[i]!.x) rfl rfl rfl trivial rfl rfl ⟨Snd.anew_ok ok hxo, Snd.anew_like z _ _⟩
              · refine Body.seq ?_
                refine Body.region ?_
                refine Ops.u (Dtu.eql (lk rfl) (lk rfl)) rfl ?_
                refine Ops.u (Dtu.asg (lk rfl)) rfl ?_
                refine Ops.nil ?_
                refine Then.next ?_
                refine Body.condP (lk rfl) (fun c185 => ?_) (fun c185 => ?_)
                · refine Body.seq ?_
                  refine Body.region ?_
                  refine Ops.u (Dtu.mv (lk rfl)) rfl ?_
                  refine Ops.s (Stp.callOwn [1] rfl rfl Try.call49 (lks rfl) (fun E' le hat => cancel_s E' _ _) ?_) rfl
                  rintro _ _ ⟨rfl, rfl⟩
                  refine Ops.u (Dtu.mv (lk rfl)) rfl ?_
                  refine Ops.s (Stp.callOwn [2, 2] rfl rfl Try.call50 (lks rfl) (fun E' le hat => rcancel_t E' _ _ (by first | assumption | omega) _ _ _) ?_) rfl
                  rintro _ _ ⟨rfl, rfl⟩
                  refine Ops.u (Dtu.neq (lk rfl) (lk rfl)) rfl ?_
                  refine Ops.nil ?_
                  refine Then.next ?_
                  refine Body.condP (lk rfl) (fun hy => absurd hy (by first | omega | assumption | decide)) (fun _ => ?_)
                  refine Body.skip ?_
                  refine Blk.norm ?_
                  refine Joint.goK [3, 2, 0, 0, 0] z.cancel rfl rfl rfl trivial rfl rfl ⟨Snd.cancel_ok ok, Snd.cancel_like z⟩
                · refine Body.skip ?_
                  refine Blk.norm ?_
                  refine Joint.goK [0, 0, 0, 0, 0] z rfl rfl rfl trivial rfl rfl ⟨ok, Snd.like_refl z⟩
        rintro y u2 ⟨yok, yl1, yl2, yl3, yl4⟩
        refine Body.seq ?_
        refine Body.region ?_
        refine Ops.u (Dtu.mv (lk rfl)) rfl ?_
        refine Ops.s (Stp.callOwn [1] rfl rfl Try.call51 (lks rfl) (fun E' le hat => left_s E' _ _) ?_) rfl
        rintro _ _ ⟨rfl, rfl⟩
        refine Ops.u (Dtu.mv (lk rfl)) rfl ?_
        refine Ops.s (Stp.callOwn [2] rfl rfl Try.call52 (lks rfl) (fun E' le hat => rleft_b E' _ _ (by first | assumption | omega) _ _ _ (by first | exact Sl.mono (by assumption) le | exact Sl.hatI hat 0 rfl | exact Sl.hatI hat 1 rfl | exact Sl.hatI hat 2 rfl | exact Sl.hatI hat 3 rfl | exact Sl.hatI hat 4 rfl | exact Sl.hatI hat 5 rfl | exact Sl.hatI hat 6 rfl | exact Sl.hatI hat 7 rfl | exact Sl.hatI hat 8 rfl | exact Sl.hatI hat 9 rfl | exact Sl.hatI hat 10 rfl | exact Sl.hatI hat 11 rfl | exact Sl.hatI hat 12 rfl | exact Sl.hatI hat 13 rfl | exact Sl.hatI hat 14 rfl | exact Sl.hatI hat 15 rfl | exact Sl.hatW hat 0 rfl | exact Sl.hatW hat 1 rfl | exact Sl.hatW hat 2 rfl | exact Sl.hatW hat 3 rfl | exact Sl.hatW hat 4 rfl | exact Sl.hatW hat 5 rfl | exact Sl.hatW hat 6 rfl | exact Sl.hatW hat 7 rfl | exact Sl.hatW hat 8 rfl | exact Sl.hatW hat 9 rfl)) ?_) rfl
        rintro _ _ ⟨rfl, rfl⟩
        refine Ops.u (Dtu.neq (lk rfl) (lk rfl)) rfl ?_
        refine Ops.u (Dtu.mv (lk rfl)) rfl ?_
        refine Ops.decP 197 rfl (fun hy => absurd hy (by first | omega | assumption | decide)) (fun _ => ?_)
        refine Ops.gu rfl rfl rfl (Dtu.mv (lk rfl)) rfl ?_
        refine Ops.gs rfl rfl rfl (Stp.callOwn [1] rfl rfl Try.call53 (lks rfl) (fun E' le hat => state_s E' _ _) ?_) rfl
        rintro _ _ ⟨rfl, rfl⟩
        refine Ops.gu rfl rfl rfl (Dtu.mv (lk rfl)) rfl ?_
        refine Ops.gs rfl rfl rfl (Stp.callOwn [1] rfl rfl Try.call54 (lks rfl) (fun E' le hat => rstate_b E' _ _ (by first | assumption | omega) _ _ _ (by first | exact Sl.mono (by assumption) le | exact Sl.hatI hat 0 rfl | exact Sl.hatI hat 1 rfl | exact Sl.hatI hat 2 rfl | exact Sl.hatI hat 3 rfl | exact Sl.hatI hat 4 rfl | exact Sl.hatI hat 5 rfl | exact Sl.hatI hat 6 rfl | exact Sl.hatI hat 7 rfl | exact Sl.hatI hat 8 rfl | exact Sl.hatI hat 9 rfl | exact Sl.hatI hat 10 rfl | exact Sl.hatI hat 11 rfl | exact Sl.hatI hat 12 rfl | exact Sl.hatI hat 13 rfl | exact Sl.hatI hat 14 rfl | exact Sl.hatI hat 15 rfl | exact Sl.hatW hat 0 rfl | exact Sl.hatW hat 1 rfl | exact Sl.hatW hat 2 rfl | exact Sl.hatW hat 3 rfl | exact Sl.hatW hat 4 rfl | exact Sl.hatW hat 5 rfl | exact Sl.hatW hat 6 rfl | exact Sl.hatW hat 7 rfl | exact Sl.hatW hat 8 rfl | exact Sl.hatW hat 9 rfl)) ?_) rfl
        rintro _ _ ⟨rfl, rfl⟩
        refine Ops.gu rfl rfl rfl (Dtu.neq (lk rfl) (lk rfl)) rfl ?_
        refine Ops.u (Dtu.pickF (lk rfl) (lk rfl)) rfl ?_
        refine Ops.nil ?_
        refine Then.next ?_
        refine Body.condP (lk rfl) (fun hy => absurd hy (by first | omega | assumption | decide)) (fun _ => ?_)
        refine Body.skip ?_
        refine Blk.norm ?_
        refine Then.next ?_
        refine Body.region ?_
        refine Ops.u (Dtu.mv (lk rfl)) rfl ?_
        refine Ops.u (Dtu.add (lk rfl) (lk rfl) (w64 (by omega) (by omega))) rfl ?_
        refine Ops.u (Dtu.asg (lk rfl)) rfl ?_
        refine Ops.nil ?_
        refine Round.goK [0, 2, 0] (i + 1, y) rfl rfl rfl ⟨rfl, trivial⟩ rfl rfl ⟨⟨hlt1, hlt2⟩, yok, yl1, yl2.trans hzi, yl3.trans hzn, yl4.trans hzs⟩ (by dsimp only; omega)
    · have hq : (z.id == id && (decide (z.nm = nm) && (((z.bs.length : Nat) : Int) == ((z.bs.length : Nat) : Int) && (eqS z.sm (shaS z.bs) && true)))) = true := by rw [hzi, hzn, hzs, eqS_same]; simp
      refine Body.seq ?_
      refine Body.seq ?_
      refine Body.region ?_
      refine Ops.u (Dtu.mv (lk rfl)) rfl ?_
      refine Ops.u (Dtu.mv (lk rfl)) rfl ?_
      refine Ops.u (Dtu.lenS Try.underlying74 (Sl.up hv) (lk rfl)) rfl ?_
      refine Ops.u (Dtu.lss (lk rfl) (lk rfl)) rfl ?_
      refine Ops.u (Dtu.mv (lk rfl)) rfl ?_
      refine Ops.decP 74 rfl (fun c74 => ?_) (fun c74 => ?_)
      · refine Ops.gu rfl rfl rfl (Dtu.mv (lk rfl)) rfl ?_
        refine Ops.gu rfl rfl rfl (Dtu.lss (lk rfl) (lk rfl)) rfl ?_
        refine Ops.u (Dtu.pickT (lk rfl) (lk rfl)) rfl ?_
        refine Ops.nil ?_
        refine Then.next ?_
        refine Body.condP (lk rfl) (fun hy => absurd hy (by first | omega | assumption | decide)) (fun _ => ?_)
        refine Body.exit ?_
        refine Then.exit ?_
        refine Round.exit ?_
        refine Blk.here ?_
        refine Then.next ?_
        refine Body.seq ?_
        refine Body.region ?_
        refine Ops.u (Dtu.mv (lk rfl)) rfl ?_
        refine Ops.s (Stp.callOwn [2] rfl rfl Try.call55 (lks rfl) (fun E' le hat => info_s E' _ _) ?_) rfl
        rintro _ _ ⟨rfl, rfl⟩
        refine Ops.s (Stp.alloc ty82 (fun b22 => ?_)) rfl
        refine Ops.e (Stp.store 0 Try.sizeOf82 (lk rfl) (lk rfl) rfl rfl rfl rfl rfl rfl rfl ?_)
        refine Ops.nil ?_
        refine Then.next ?_
        refine Body.seq ?_
        refine Body.region ?_
        refine Ops.u (Dtu.asg (lk rfl)) rfl ?_
        refine Ops.nil ?_
        refine Then.next ?_
        refine Body.seq ?_
        refine Body.region ?_
        refine Ops.s (Stp.alloc ty104 (fun b24 => ?_)) rfl
        refine Ops.nil ?_
        refine Then.next ?_
        refine Body.seq ?_
        refine Body.region ?_
        refine Ops.u (Dtu.mv (lk rfl)) rfl ?_
        refine Ops.s (Stp.call rfl Try.call45 (lks rfl) (fun E' le hat => Next0_ok E') ?_) rfl
        rintro _ _ ⟨rfl, rfl⟩
        refine Ops.u (Dtu.mv (lk rfl)) rfl ?_
        refine Ops.u (Dtu.ext (lk rfl) rfl) rfl ?_
        refine Ops.u (Dtu.ext (lk rfl) rfl) rfl ?_
        refine Ops.u (Dtu.ext (lk rfl) rfl) rfl ?_
        refine Ops.u (Dtu.asg (lk rfl)) rfl ?_
        refine Ops.u (Dtu.asg (lk rfl)) rfl ?_
        refine Ops.u (Dtu.asg (lk rfl)) rfl ?_
        refine Ops.nil ?_
        refine Then.next ?_
        refine Body.seq ?_
        refine Body.region ?_
        refine Ops.s (Stp.callOwn [0] rfl rfl Try.call40 (lks rfl) (fun E' le hat => PeekZ_ok E' _) ?_) rfl
        rintro _ _ ⟨rfl, rfl⟩
        refine Ops.u (Dtu.mv (lk rfl)) rfl ?_
        refine Ops.u (Dtu.ext (lk rfl) rfl) rfl ?_
        refine Ops.u (Dtu.ext (lk rfl) rfl) rfl ?_
        refine Ops.u (Dtu.asg (lk rfl)) rfl ?_
        refine Ops.u (Dtu.asg (lk rfl)) rfl ?_
        refine Ops.nil ?_
        refine Then.next ?_
        refine Body.seq ?_
        refine Body.drawE [1] mixed rfl ?_
        rintro E42' le42 ⟨hA42_0, -⟩
        have hv_42 := Sl.mono hv le42
        have hs_42 := Sl.mono hs le42
        refine AE.more [0] (by decide +kernel) rfl ⟨?_, trivial⟩
        refine AEI.s rfl (Stp.call rfl Try.call36 (lks rfl) (fun E' le hat => alive26_ok E') ?_) rfl
        rintro _ _ ⟨rfl, rfl⟩
        refine AE.u 1 rfl (by decide +kernel) (Dtu.mv (lk rfl)) rfl ?_
        refine AE.gd 2 rfl (by decide +kernel) rfl rfl rfl (Det.lda Try.isAgg82 Try.sizeOf82 (lk rfl) (Rds.at (m := 35) hA42_0 rfl) rfl) rfl ?_
        refine AE.gu 3 rfl (by decide +kernel) rfl rfl rfl (Dtu.mv (lk rfl)) rfl ?_
        refine AE.gu 4 rfl (by decide +kernel) rfl rfl rfl (Dtu.mv (lk rfl)) rfl ?_
        refine AE.gu 5 rfl (by decide +kernel) rfl rfl rfl (Dtu.mv (lk rfl)) rfl ?_
        refine AE.gu 6 rfl (by decide +kernel) rfl rfl rfl (Dtu.lenS Try.underlying73 (Sl.up hs_42) (lk rfl)) rfl ?_
        refine AE.gu 7 rfl (by decide +kernel) rfl rfl rfl (Dtu.mv (lk rfl)) rfl ?_
        refine AE.more [8] (by decide +kernel) rfl ⟨?_, trivial⟩
        refine AEI.gs rfl rfl rfl rfl (Stp.buildSliceO Try.underlying144 ty73 (by decide) (by decide) (lkp rfl) rfl rfl rfl (by decide) (fun v224 => ?_)) rfl
        refine AE.more [9] (by decide +kernel) rfl ⟨?_, trivial⟩
        refine AEI.gs rfl rfl rfl rfl (Stp.call rfl Try.call56 (lks rfl) (fun E' le hat => sof32_ok E' _ _ _ (by first | exact Sl.mono (by assumption) le | exact Sl.hatI hat 0 rfl | exact Sl.hatI hat 1 rfl | exact Sl.hatI hat 2 rfl | exact Sl.hatI hat 3 rfl | exact Sl.hatI hat 4 rfl | exact Sl.hatI hat 5 rfl | exact Sl.hatI hat 6 rfl | exact Sl.hatI hat 7 rfl | exact Sl.hatI hat 8 rfl | exact Sl.hatI hat 9 rfl | exact Sl.hatI hat 10 rfl | exact Sl.hatI hat 11 rfl | exact Sl.hatI hat 12 rfl | exact Sl.hatI hat 13 rfl | exact Sl.hatI hat 14 rfl | exact Sl.hatI hat 15 rfl | exact Sl.hatW hat 0 rfl | exact Sl.hatW hat 1 rfl | exact Sl.hatW hat 2 rfl | exact Sl.hatW hat 3 rfl | exact Sl.hatW hat 4 rfl | exact Sl.hatW hat 5 rfl | exact Sl.hatW hat 6 rfl | exact Sl.hatW hat 7 rfl | exact Sl.hatW hat 8 rfl | exact Sl.hatW hat 9 rfl) (by first | exact Sl.mono (by assumption) le | exact Sl.hatI hat 0 rfl | exact Sl.hatI hat 1 rfl | exact Sl.hatI hat 2 rfl | exact Sl.hatI hat 3 rfl | exact Sl.hatI hat 4 rfl | exact Sl.hatI hat 5 rfl | exact Sl.hatI hat 6 rfl | exact Sl.hatI hat 7 rfl | exact Sl.hatI hat 8 rfl | exact Sl.hatI hat 9 rfl | exact Sl.hatI hat 10 rfl | exact Sl.hatI hat 11 rfl | exact Sl.hatI hat 12 rfl | exact Sl.hatI hat 13 rfl | exact Sl.hatI hat 14 rfl | exact Sl.hatI hat 15 rfl | exact Sl.hatW hat 0 rfl | exact Sl.hatW hat 1 rfl | exact Sl.hatW hat 2 rfl | exact Sl.hatW hat 3 rfl | exact Sl.hatW hat 4 rfl | exact Sl.hatW hat 5 rfl | exact Sl.hatW hat 6 rfl | exact Sl.hatW hat 7 rfl | exact Sl.hatW hat 8 rfl | exact Sl.hatW hat 9 rfl) (by first | assumption | omega) (by first | assumption | omega)) ?_) rfl
        rintro _ _ ⟨rfl, rfl⟩
        refine AE.gu 10 rfl (by decide +kernel) rfl rfl rfl (Dtu.build ty82 pl82 (lkp rfl) rfl rfl) rfl ?_
        refine AE.gu 11 rfl (by decide +kernel) rfl rfl rfl (Dtu.eqS eqGuard82 (eq82 _ _ _ _ _ _ _ _) (lk rfl) (lk rfl)) rfl ?_
        refine AE.u 12 rfl (by decide +kernel) (Dtu.pickT (lk rfl) (lk rfl)) rfl ?_
        refine AE.u 13 rfl (by decide +kernel) (Dtu.mv (lk rfl)) rfl ?_
        refine AE.dec 229 rfl (fun _ => ?_) (fun hn => absurd hn (by first | (rw [hq]; decide) | simp [hq]))
        refine AE.gu 14 rfl (by decide +kernel) rfl rfl rfl (Dtu.mv (lk rfl)) rfl ?_
        refine AE.gu 15 rfl (by decide +kernel) rfl rfl rfl (Dtu.not (lk rfl)) rfl ?_
        refine AE.u 16 rfl (by decide +kernel) (Dtu.pickT (lk rfl) (lk rfl)) rfl ?_
        refine AE.u 17 rfl (by decide +kernel) (Dtu.mv (lk rfl)) rfl ?_
        refine AE.gu 18 rfl (by decide +kernel) rfl rfl rfl (Dtu.mv (lk rfl)) rfl ?_
        refine AE.gu 19 rfl (by decide +kernel) rfl rfl rfl (Dtu.not (lk rfl)) rfl ?_
        refine AE.u 20 rfl (by decide +kernel) (Dtu.pickT (lk rfl) (lk rfl)) rfl ?_
        refine AE.u 21 rfl (by decide +kernel) (Dtu.mv (lk rfl)) rfl ?_
        refine AE.gu 22 rfl (by decide +kernel) rfl rfl rfl (Dtu.mv (lk rfl)) rfl ?_
        refine AE.gu 23 rfl (by decide +kernel) rfl rfl rfl (Dtu.build ty86 pl86 (lkp rfl) rfl rfl) rfl ?_
        refine AE.more [24] (by decide +kernel) rfl ⟨?_, trivial⟩
        refine AEI.gs rfl rfl rfl rfl (Stp.call rfl Try.call46 (lks rfl) (fun E' le hat => Know0_ok E' _ _) ?_) rfl
        rintro _ _ ⟨rfl, rfl⟩
        refine AE.gu 25 rfl (by decide +kernel) rfl rfl rfl (Dtu.eql (lk rfl) (lk rfl)) rfl ?_
        refine AE.u 26 rfl (by decide +kernel) (Dtu.pickT (lk rfl) (lk rfl)) rfl ?_
        refine AE.u 27 rfl (by decide +kernel) (Dtu.mv (lk rfl)) rfl ?_
        refine AE.decP 243 rfl (fun _ => ?_) (fun hn => absurd (by first | omega | assumption | decide) hn)
        refine AE.gu 28 rfl (by decide +kernel) rfl rfl rfl (Dtu.build ty86 pl86 (lkp rfl) rfl rfl) rfl ?_
        refine AE.more [29] (by decide +kernel) rfl ⟨?_, trivial⟩
        refine AEI.gs rfl rfl rfl rfl (Stp.callOwn [1] rfl rfl Try.call48 (lks rfl) (fun E' le hat => AnewZ_ok E' _ _ _) ?_) rfl
        rintro _ _ ⟨rfl, rfl⟩
        refine AE.gu 30 rfl (by decide +kernel) rfl rfl rfl (Dtu.eql (lk rfl) (lk rfl)) rfl ?_
        refine AE.u 31 rfl (by decide +kernel) (Dtu.pickT (lk rfl) (lk rfl)) rfl ?_
        refine AE.u 32 rfl (by decide +kernel) (Dtu.mv (lk rfl)) rfl ?_
        refine AE.decP 248 rfl (fun _ => ?_) (fun hn => absurd (by first | omega | assumption | decide) hn)
        refine AE.gu 33 rfl (by decide +kernel) rfl rfl rfl (Dtu.mv (lk rfl)) rfl ?_
        refine AE.more [34] (by decide +kernel) rfl ⟨?_, trivial⟩
        refine AEI.gs rfl rfl rfl rfl (Stp.call rfl Try.call49 (lks rfl) (fun E' le hat => Cancel0_ok E') ?_) rfl
        rintro _ _ ⟨rfl, rfl⟩
        refine AE.gu 35 rfl (by decide +kernel) rfl rfl rfl (Dtu.eql (lk rfl) (lk rfl)) rfl ?_
        refine AE.u 36 rfl (by decide +kernel) (Dtu.pickT (lk rfl) (lk rfl)) rfl ?_
        refine AE.u 37 rfl (by decide +kernel) (Dtu.mv (lk rfl)) rfl ?_
        refine AE.decP 253 rfl (fun _ => ?_) (fun hn => absurd (by first | omega | assumption | decide) hn)
        refine AE.gu 38 rfl (by decide +kernel) rfl rfl rfl (Dtu.mv (lk rfl)) rfl ?_
        refine AE.gu 40 rfl (by decide +kernel) rfl rfl rfl (Dtu.mv (lk rfl)) rfl ?_
        refine AE.more [39] (by decide +kernel) rfl ⟨?_, trivial⟩
        refine AEI.gs rfl rfl rfl rfl (Stp.call rfl Try.call51 (lks rfl) (fun E' le hat => Left0_ok E') ?_) rfl
        rintro _ _ ⟨rfl, rfl⟩
        refine AE.more [41] (by decide +kernel) rfl ⟨?_, trivial⟩
        refine AEI.gs rfl rfl rfl rfl (Stp.call rfl Try.call53 (lks rfl) (fun E' le hat => State0_ok E') ?_) rfl
        rintro _ _ ⟨rfl, rfl⟩
        refine AE.gu 42 rfl (by decide +kernel) rfl rfl rfl (Dtu.add (lk rfl) (lk rfl) (w64 (by omega) (by omega))) rfl ?_
        refine AE.more [43] (by decide +kernel) rfl ⟨?_, trivial⟩
        refine AEI.gs rfl rfl rfl rfl (Stp.callOwn [0] rfl rfl Try.call53 (lks rfl) (fun E' le hat => StateZ_ok E' _) ?_) rfl
        rintro _ _ ⟨rfl, rfl⟩
        refine AE.gu 44 rfl (by decide +kernel) rfl rfl rfl (Dtu.add (lk rfl) (lk rfl) (w64 (by omega) (by omega))) rfl ?_
        refine AE.gu 45 rfl (by decide +kernel) rfl rfl rfl (Dtu.eql (lk rfl) (lk rfl)) rfl ?_
        refine AE.u 46 rfl (by decide +kernel) (Dtu.pickT (lk rfl) (lk rfl)) rfl ?_
        refine AE.u 47 rfl (by decide +kernel) (Dtu.asg (lk rfl)) rfl ?_
        refine AE.done (by decide +kernel) ?_
        refine Then.next ?_
        refine Body.ret ?_
        exact ⟨.inr rfl, _, pk [] rfl, rfl, rfl⟩
      · refine Ops.gn rfl rfl rfl rfl rfl ?_
        refine Ops.gn rfl rfl rfl rfl rfl ?_
        refine Ops.u (Dtu.pickF (lk rfl) (lk rfl)) rfl ?_
        refine Ops.nil ?_
        refine Then.next ?_
        refine Body.condF (lk rfl) ?_
        refine Body.exit ?_
        refine Then.exit ?_
        refine Round.exit ?_
        refine Blk.here ?_
        refine Then.next ?_
        refine Body.seq ?_
        refine Body.region ?_
        refine Ops.u (Dtu.mv (lk rfl)) rfl ?_
        refine Ops.s (Stp.callOwn [2] rfl rfl Try.call55 (lks rfl) (fun E' le hat => info_s E' _ _) ?_) rfl
        rintro _ _ ⟨rfl, rfl⟩
        refine Ops.s (Stp.alloc ty82 (fun b22 => ?_)) rfl
        refine Ops.e (Stp.store 0 Try.sizeOf82 (lk rfl) (lk rfl) rfl rfl rfl rfl rfl rfl rfl ?_)
        refine Ops.nil ?_
        refine Then.next ?_
        refine Body.seq ?_
        refine Body.region ?_
        refine Ops.u (Dtu.asg (lk rfl)) rfl ?_
        refine Ops.nil ?_
        refine Then.next ?_
        refine Body.seq ?_
        refine Body.region ?_
        refine Ops.s (Stp.alloc ty104 (fun b24 => ?_)) rfl
        refine Ops.nil ?_
        refine Then.next ?_
        refine Body.seq ?_
        refine Body.region ?_
        refine Ops.u (Dtu.mv (lk rfl)) rfl ?_
        refine Ops.s (Stp.call rfl Try.call45 (lks rfl) (fun E' le hat => Next0_ok E') ?_) rfl
        rintro _ _ ⟨rfl, rfl⟩
        refine Ops.u (Dtu.mv (lk rfl)) rfl ?_
        refine Ops.u (Dtu.ext (lk rfl) rfl) rfl ?_
        refine Ops.u (Dtu.ext (lk rfl) rfl) rfl ?_
        refine Ops.u (Dtu.ext (lk rfl) rfl) rfl ?_
        refine Ops.u (Dtu.asg (lk rfl)) rfl ?_
        refine Ops.u (Dtu.asg (lk rfl)) rfl ?_
        refine Ops.u (Dtu.asg (lk rfl)) rfl ?_
        refine Ops.nil ?_
        refine Then.next ?_
        refine Body.seq ?_
        refine Body.region ?_
        refine Ops.s (Stp.callOwn [0] rfl rfl Try.call40 (lks rfl) (fun E' le hat => PeekZ_ok E' _) ?_) rfl
        rintro _ _ ⟨rfl, rfl⟩
        refine Ops.u (Dtu.mv (lk rfl)) rfl ?_
        refine Ops.u (Dtu.ext (lk rfl) rfl) rfl ?_
        refine Ops.u (Dtu.ext (lk rfl) rfl) rfl ?_
        refine Ops.u (Dtu.asg (lk rfl)) rfl ?_
        refine Ops.u (Dtu.asg (lk rfl)) rfl ?_
        refine Ops.nil ?_
        refine Then.next ?_
        refine Body.seq ?_
        refine Body.drawE [1] mixed rfl ?_
        rintro E42' le42 ⟨hA42_0, -⟩
        have hv_42 := Sl.mono hv le42
        have hs_42 := Sl.mono hs le42
        refine AE.more [0] (by decide +kernel) rfl ⟨?_, trivial⟩
        refine AEI.s rfl (Stp.call rfl Try.call36 (lks rfl) (fun E' le hat => alive26_ok E') ?_) rfl
        rintro _ _ ⟨rfl, rfl⟩
        refine AE.u 1 rfl (by decide +kernel) (Dtu.mv (lk rfl)) rfl ?_
        refine AE.gd 2 rfl (by decide +kernel) rfl rfl rfl (Det.lda Try.isAgg82 Try.sizeOf82 (lk rfl) (Rds.at (m := 35) hA42_0 rfl) rfl) rfl ?_
        refine AE.gu 3 rfl (by decide +kernel) rfl rfl rfl (Dtu.mv (lk rfl)) rfl ?_
        refine AE.gu 4 rfl (by decide +kernel) rfl rfl rfl (Dtu.mv (lk rfl)) rfl ?_
        refine AE.gu 5 rfl (by decide +kernel) rfl rfl rfl (Dtu.mv (lk rfl)) rfl ?_
        refine AE.gu 6 rfl (by decide +kernel) rfl rfl rfl (Dtu.lenS Try.underlying73 (Sl.up hs_42) (lk rfl)) rfl ?_
        refine AE.gu 7 rfl (by decide +kernel) rfl rfl rfl (Dtu.mv (lk rfl)) rfl ?_
        refine AE.more [8] (by decide +kernel) rfl ⟨?_, trivial⟩
        refine AEI.gs rfl rfl rfl rfl (Stp.buildSliceO Try.underlying144 ty73 (by decide) (by decide) (lkp rfl) rfl rfl rfl (by decide) (fun v224 => ?_)) rfl
        refine AE.more [9] (by decide +kernel) rfl ⟨?_, trivial⟩
        refine AEI.gs rfl rfl rfl rfl (Stp.call rfl Try.call56 (lks rfl) (fun E' le hat => sof32_ok E' _ _ _ (by first | exact Sl.mono (by assumption) le | exact Sl.hatI hat 0 rfl | exact Sl.hatI hat 1 rfl | exact Sl.hatI hat 2 rfl | exact Sl.hatI hat 3 rfl | exact Sl.hatI hat 4 rfl | exact Sl.hatI hat 5 rfl | exact Sl.hatI hat 6 rfl | exact Sl.hatI hat 7 rfl | exact Sl.hatI hat 8 rfl | exact Sl.hatI hat 9 rfl | exact Sl.hatI hat 10 rfl | exact Sl.hatI hat 11 rfl | exact Sl.hatI hat 12 rfl | exact Sl.hatI hat 13 rfl | exact Sl.hatI hat 14 rfl | exact Sl.hatI hat 15 rfl | exact Sl.hatW hat 0 rfl | exact Sl.hatW hat 1 rfl | exact Sl.hatW hat 2 rfl | exact Sl.hatW hat 3 rfl | exact Sl.hatW hat 4 rfl | exact Sl.hatW hat 5 rfl | exact Sl.hatW hat 6 rfl | exact Sl.hatW hat 7 rfl | exact Sl.hatW hat 8 rfl | exact Sl.hatW hat 9 rfl) (by first | exact Sl.mono (by assumption) le | exact Sl.hatI hat 0 rfl | exact Sl.hatI hat 1 rfl | exact Sl.hatI hat 2 rfl | exact Sl.hatI hat 3 rfl | exact Sl.hatI hat 4 rfl | exact Sl.hatI hat 5 rfl | exact Sl.hatI hat 6 rfl | exact Sl.hatI hat 7 rfl | exact Sl.hatI hat 8 rfl | exact Sl.hatI hat 9 rfl | exact Sl.hatI hat 10 rfl | exact Sl.hatI hat 11 rfl | exact Sl.hatI hat 12 rfl | exact Sl.hatI hat 13 rfl | exact Sl.hatI hat 14 rfl | exact Sl.hatI hat 15 rfl | exact Sl.hatW hat 0 rfl | exact Sl.hatW hat 1 rfl | exact Sl.hatW hat 2 rfl | exact Sl.hatW hat 3 rfl | exact Sl.hatW hat 4 rfl | exact Sl.hatW hat 5 rfl | exact Sl.hatW hat 6 rfl | exact Sl.hatW hat 7 rfl | exact Sl.hatW hat 8 rfl | exact Sl.hatW hat 9 rfl) (by first | assumption | omega) (by first | assumption | omega)) ?_) rfl
        rintro _ _ ⟨rfl, rfl⟩
        refine AE.gu 10 rfl (by decide +kernel) rfl rfl rfl (Dtu.build ty82 pl82 (lkp rfl) rfl rfl) rfl ?_
        refine AE.gu 11 rfl (by decide +kernel) rfl rfl rfl (Dtu.eqS eqGuard82 (eq82 _ _ _ _ _ _ _ _) (lk rfl) (lk rfl)) rfl ?_
        refine AE.u 12 rfl (by decide +kernel) (Dtu.pickT (lk rfl) (lk rfl)) rfl ?_
        refine AE.u 13 rfl (by decide +kernel) (Dtu.mv (lk rfl)) rfl ?_
        refine AE.dec 229 rfl (fun _ => ?_) (fun hn => absurd hn (by first | (rw [hq]; decide) | simp [hq]))
        refine AE.gu 14 rfl (by decide +kernel) rfl rfl rfl (Dtu.mv (lk rfl)) rfl ?_
        refine AE.gu 15 rfl (by decide +kernel) rfl rfl rfl (Dtu.not (lk rfl)) rfl ?_
        refine AE.u 16 rfl (by decide +kernel) (Dtu.pickT (lk rfl) (lk rfl)) rfl ?_
        refine AE.u 17 rfl (by decide +kernel) (Dtu.mv (lk rfl)) rfl ?_
        refine AE.gu 18 rfl (by decide +kernel) rfl rfl rfl (Dtu.mv (lk rfl)) rfl ?_
        refine AE.gu 19 rfl (by decide +kernel) rfl rfl rfl (Dtu.not (lk rfl)) rfl ?_
        refine AE.u 20 rfl (by decide +kernel) (Dtu.pickT (lk rfl) (lk rfl)) rfl ?_
        refine AE.u 21 rfl (by decide +kernel) (Dtu.mv (lk rfl)) rfl ?_
        refine AE.gu 22 rfl (by decide +kernel) rfl rfl rfl (Dtu.mv (lk rfl)) rfl ?_
        refine AE.gu 23 rfl (by decide +kernel) rfl rfl rfl (Dtu.build ty86 pl86 (lkp rfl) rfl rfl) rfl ?_
        refine AE.more [24] (by decide +kernel) rfl ⟨?_, trivial⟩
        refine AEI.gs rfl rfl rfl rfl (Stp.call rfl Try.call46 (lks rfl) (fun E' le hat => Know0_ok E' _ _) ?_) rfl
        rintro _ _ ⟨rfl, rfl⟩
        refine AE.gu 25 rfl (by decide +kernel) rfl rfl rfl (Dtu.eql (lk rfl) (lk rfl)) rfl ?_
        refine AE.u 26 rfl (by decide +kernel) (Dtu.pickT (lk rfl) (lk rfl)) rfl ?_
        refine AE.u 27 rfl (by decide +kernel) (Dtu.mv (lk rfl)) rfl ?_
        refine AE.decP 243 rfl (fun _ => ?_) (fun hn => absurd (by first | omega | assumption | decide) hn)
        refine AE.gu 28 rfl (by decide +kernel) rfl rfl rfl (Dtu.build ty86 pl86 (lkp rfl) rfl rfl) rfl ?_
        refine AE.more [29] (by decide +kernel) rfl ⟨?_, trivial⟩
        refine AEI.gs rfl rfl rfl rfl (Stp.callOwn [1] rfl rfl Try.call48 (lks rfl) (fun E' le hat => AnewZ_ok E' _ _ _) ?_) rfl
        rintro _ _ ⟨rfl, rfl⟩
        refine AE.gu 30 rfl (by decide +kernel) rfl rfl rfl (Dtu.eql (lk rfl) (lk rfl)) rfl ?_
        refine AE.u 31 rfl (by decide +kernel) (Dtu.pickT (lk rfl) (lk rfl)) rfl ?_
        refine AE.u 32 rfl (by decide +kernel) (Dtu.mv (lk rfl)) rfl ?_
        refine AE.decP 248 rfl (fun _ => ?_) (fun hn => absurd (by first | omega | assumption | decide) hn)
        refine AE.gu 33 rfl (by decide +kernel) rfl rfl rfl (Dtu.mv (lk rfl)) rfl ?_
        refine AE.more [34] (by decide +kernel) rfl ⟨?_, trivial⟩
        refine AEI.gs rfl rfl rfl rfl (Stp.call rfl Try.call49 (lks rfl) (fun E' le hat => Cancel0_ok E') ?_) rfl
        rintro _ _ ⟨rfl, rfl⟩
        refine AE.gu 35 rfl (by decide +kernel) rfl rfl rfl (Dtu.eql (lk rfl) (lk rfl)) rfl ?_
        refine AE.u 36 rfl (by decide +kernel) (Dtu.pickT (lk rfl) (lk rfl)) rfl ?_
        refine AE.u 37 rfl (by decide +kernel) (Dtu.mv (lk rfl)) rfl ?_
        refine AE.decP 253 rfl (fun _ => ?_) (fun hn => absurd (by first | omega | assumption | decide) hn)
        refine AE.gu 38 rfl (by decide +kernel) rfl rfl rfl (Dtu.mv (lk rfl)) rfl ?_
        refine AE.gu 40 rfl (by decide +kernel) rfl rfl rfl (Dtu.mv (lk rfl)) rfl ?_
        refine AE.more [39] (by decide +kernel) rfl ⟨?_, trivial⟩
        refine AEI.gs rfl rfl rfl rfl (Stp.call rfl Try.call51 (lks rfl) (fun E' le hat => Left0_ok E') ?_) rfl
        rintro _ _ ⟨rfl, rfl⟩
        refine AE.more [41] (by decide +kernel) rfl ⟨?_, trivial⟩
        refine AEI.gs rfl rfl rfl rfl (Stp.call rfl Try.call53 (lks rfl) (fun E' le hat => State0_ok E') ?_) rfl
        rintro _ _ ⟨rfl, rfl⟩
        refine AE.gu 42 rfl (by decide +kernel) rfl rfl rfl (Dtu.add (lk rfl) (lk rfl) (w64 (by omega) (by omega))) rfl ?_
        refine AE.more [43] (by decide +kernel) rfl ⟨?_, trivial⟩
        refine AEI.gs rfl rfl rfl rfl (Stp.callOwn [0] rfl rfl Try.call53 (lks rfl) (fun E' le hat => StateZ_ok E' _) ?_) rfl
        rintro _ _ ⟨rfl, rfl⟩
        refine AE.gu 44 rfl (by decide +kernel) rfl rfl rfl (Dtu.add (lk rfl) (lk rfl) (w64 (by omega) (by omega))) rfl ?_
        refine AE.gu 45 rfl (by decide +kernel) rfl rfl rfl (Dtu.eql (lk rfl) (lk rfl)) rfl ?_
        refine AE.u 46 rfl (by decide +kernel) (Dtu.pickT (lk rfl) (lk rfl)) rfl ?_
        refine AE.u 47 rfl (by decide +kernel) (Dtu.asg (lk rfl)) rfl ?_
        refine AE.done (by decide +kernel) ?_
        refine Then.next ?_
        refine Body.ret ?_
        exact ⟨.inr rfl, _, pk [] rfl, rfl, rfl⟩
  · have hi : infoR id nm bs.length = false := by simpa using hi
    refine Does.go _ _ Try.func7 rfl Try.ntmps7 rfl rfl ?_
    refine Body.seq ?_
    refine Body.region ?_
    refine Ops.u (Dtu.asg (lk rfl)) rfl ?_
    refine Ops.nil ?_
    refine Then.next ?_
    refine Body.seq ?_
    refine Body.seq ?_
    refine Body.region ?_
    refine Ops.u (Dtu.mv (lk rfl)) rfl ?_
    refine Ops.u (Dtu.lenS Try.underlying73 (Sl.up hs) (lk rfl)) rfl ?_
    refine Ops.u (Dtu.gtr (lk rfl) (lk rfl)) rfl ?_
    refine Ops.u (Dtu.mv (lk rfl)) rfl ?_
    refine Ops.decP 33 rfl (fun hy => absurd hy (by first | omega | assumption | decide)) (fun _ => ?_)
    refine Ops.gu rfl rfl rfl (Dtu.mv (lk rfl)) rfl ?_
    refine Ops.gu rfl rfl rfl (Dtu.lenStr Try.underlying9 (lk rfl)) rfl ?_
    refine Ops.gu rfl rfl rfl (Dtu.gtr (lk rfl) (lk rfl)) rfl ?_
    refine Ops.u (Dtu.pickF (lk rfl) (lk rfl)) rfl ?_
    refine Ops.nil ?_
    refine Then.next ?_
    refine Body.condP (lk rfl) (fun hy => absurd hy (by first | omega | assumption | decide)) (fun _ => ?_)
    refine Body.skip ?_
    refine Then.next ?_
    refine Body.seq ?_
    refine Body.region ?_
    refine Ops.u (Dtu.mv (lk rfl)) rfl ?_
    refine Ops.u (Dtu.mv (lk rfl)) rfl ?_
    refine Ops.u (Dtu.mv (lk rfl)) rfl ?_
    refine Ops.s (Stp.call rfl Try.call37 (lks rfl) (fun E' le hat => snew_n E' _ _ _ bs (Sl.mono hs le) hb (by assumption) (by omega)) ?_) rfl
    rintro _ _ ⟨rfl, rfl⟩
    refine Ops.u (Dtu.mv (lk rfl)) rfl ?_
    refine Ops.u (Dtu.ext (lk rfl) rfl) rfl ?_
    refine Ops.u (Dtu.ext (lk rfl) rfl) rfl ?_
    refine Ops.u (Dtu.asg (lk rfl)) rfl ?_
    refine Ops.u (Dtu.asg (lk rfl)) rfl ?_
    refine Ops.nil ?_
    refine Then.next ?_
    refine Body.seq ?_
    refine Body.seq ?_
    refine Body.region ?_
    refine Ops.u (Dtu.mv (lk rfl)) rfl ?_
    refine Ops.u (Dtu.mv (lk rfl)) rfl ?_
    refine Ops.u (Dtu.mv (lk rfl)) rfl ?_
    refine Ops.u (Dtu.lenS Try.underlying73 (Sl.up hs) (lk rfl)) rfl ?_
    refine Ops.u (Dtu.build ty82 pl82 (lkp rfl) rfl rfl) rfl ?_
    refine Ops.s (Stp.call rfl Try.call38 (lks rfl) (fun E' le hat => sright_ok E' _ _ _ (fun _ => 0)) ?_) rfl
    rintro _ _ ⟨rfl, rfl⟩
    refine Ops.u (Dtu.not (lk rfl)) rfl ?_
    refine Ops.nil ?_
    refine Then.next ?_
    refine Body.cond (lk rfl) (fun _ => ?_) (fun hn => absurd hn (by first | (rw [hi]; decide) | simp [hi]))
    refine Body.seq ?_
    refine Body.region ?_
    refine Ops.s (Stp.call rfl Try.call36 (lks rfl) (fun E' le hat => alive26_ok E') ?_) rfl
    rintro _ _ ⟨rfl, rfl⟩
    refine Ops.u (Dtu.mv (lk rfl)) rfl ?_
    refine Ops.gu rfl rfl rfl (Dtu.mv (lk rfl)) rfl ?_
    refine Ops.gu rfl rfl rfl (Dtu.eqNil Try.underlying75 (lk rfl) (lk rfl)) rfl ?_
    refine Ops.u (Dtu.pickT (lk rfl) (lk rfl)) rfl ?_
    refine Ops.u (Dtu.mv (lk rfl)) rfl ?_
    refine Ops.gu rfl rfl rfl (Dtu.mv (lk rfl)) rfl ?_
    refine Ops.gu rfl rfl rfl (Dtu.eql (lk rfl) (lk rfl)) rfl ?_
    refine Ops.u (Dtu.pickT (lk rfl) (lk rfl)) rfl ?_
    refine Ops.u (Dtu.asg (lk rfl)) rfl ?_
    refine Ops.nil ?_
    refine Then.next ?_
    refine Body.ret ?_
    refine Then.ret ?_
    exact ⟨.inr rfl, _, pk [] rfl, rfl, rfl⟩
end Go.Proofs.Ytpmapedhigjalaa
end
section
/- Arguments of the file's statements. -/
namespace Go.Proofs.Ytpmapedhigjalaa
set_option maxRecDepth 100000
set_option linter.unusedVariables false
set_option linter.unusedSimpArgs false
open Go.Sx Go.ChangeShapes Go.RowKit
section
variable {H : Type} {enc : TypeId × Value → H} {W : World} {base : Nat} {held : Bool} {fuel : Nat} {cs : List Value} {x : DataW H × List MemPlace}
theorem cells1_72 : Try.prog.cellsOf 72 = 1 := by kernel_rfl
theorem cells2_86 : Try.prog.cellsOf 86 = 2 := by kernel_rfl
theorem cells3_88 : Try.prog.cellsOf 88 = 3 := by kernel_rfl
theorem trod_bytes (h : DataW.trod enc Try.prog W base (fun _ => true) held fuel 73 cs = some x) : ∃ (s : Value) (bs : List Int), cs = [s] ∧ Sl (envOf W) [] 1 s bs.length (bs.map (.int .u8)) ∧ Byt bs := by
  obtain ⟨s, l, h1, h2, h3⟩ := trod_list (en := fun c : Int => [Value.int .u8 c]) (Q := fun c => 0 ≤ c ∧ c < 256) Try.underlying73 cells1_5 (by omega) (fun _ => rfl) (fun h => by
    obtain ⟨c, e, _, w0⟩ := DataW.trod_int Try.underlying5 h
    have := bounds_u8 w0
    exact ⟨c, e, by omega, by omega⟩) h
  rw [show l.flatMap (fun c : Int => [Value.int .u8 c]) = l.map (.int .u8) from by rw [List.map_eq_flatMap]] at h2
  exact ⟨s, l, h1, h2, Byt.iff.2 h3⟩
theorem trod_map (h : DataW.trod enc Try.prog W base (fun _ => true) held fuel 86 cs = some x) : ∃ n y : Int, cs = [.int .i64 n, .int .u64 y] ∧ U64 y := by
  have hl := lenT Try.underlying86 h
  rw [cells2_86] at hl
  match cs, hl with
  | [v0, v1], _ =>
    obtain ⟨n0, y0, h0⟩ := fldT Try.underlying86 h 0 3 0 1 rfl rfl rfl cells1_3
    obtain ⟨n1, y1, h1⟩ := fldT Try.underlying86 h 1 72 1 1 rfl rfl rfl cells1_72
    obtain ⟨a0, e0, _, w0⟩ := DataW.trod_int Try.underlying3 h0
    obtain ⟨a1, e1, _, w1⟩ := DataW.trod_int Try.underlying72 h1
    have b1 := bounds_u64 w1
    simp at e0 e1
    subst e0 e1
    exact ⟨a0, a1, rfl, ⟨by omega, by omega⟩⟩
theorem trod_fop (h : DataW.trod enc Try.prog W base (fun _ => true) held fuel 88 cs = some x) : ∃ o : FOp, cs = o.enc ∧ U64 o.x := by
  have hl := lenT Try.underlying88 h
  rw [cells3_88] at hl
  match cs, hl with
  | [v0, v1, v2], _ =>
    obtain ⟨n0, y0, h0⟩ := fldT Try.underlying88 h 0 3 0 1 rfl rfl rfl cells1_3
    obtain ⟨n1, y1, h1⟩ := fldT Try.underlying88 h 1 86 1 2 rfl rfl rfl cells2_86
    obtain ⟨a0, e0, _, w0⟩ := DataW.trod_int Try.underlying3 h0
    obtain ⟨n, y, e1, hy⟩ := trod_map h1
    simp at e0 e1
    obtain ⟨e1, e2⟩ := e1
    subst e0 e1 e2
    exact ⟨⟨a0, n, y⟩, rfl, hy⟩
theorem trod_fops (h : DataW.trod enc Try.prog W base (fun _ => true) held fuel 74 cs = some x) : ∃ (s : Value) (l : List FOp), cs = [s] ∧ Sl (envOf W) [] 3 s l.length (l.flatMap FOp.enc) ∧ ∀ o ∈ l, U64 o.x :=
  trod_list Try.underlying74 cells3_88 (by omega) (fun _ => rfl) (fun h => trod_fop h) h
open Go.WideShapes in
theorem open_map {b0 : Nat} {v0 : Value} {d : DataW H} {p : List MemPlace} (hval : Value.okWide Try.prog W .any b0 86 v0) (h0 : DataW.Trod enc Try.prog W 0 (fun _ => true) true 86 v0 d p) :
    ∃ (n y : Int), v0 = .agg #[.int .i64 n, .int .u64 y] ∧ U64 y := by
  obtain ⟨cs, rfl, _⟩ := okWide_struct Try.underlying86 hval
  obtain ⟨n, h⟩ := h0
  have e : (Value.agg cs).cells.toList = cs.toList := rfl
  rw [e] at h
  obtain ⟨n, y, hc, hi⟩ := trod_map h
  refine ⟨n, y, ?_, hi⟩
  congr 1
  rw [← Array.toList_inj, hc]
end
end Go.Proofs.Ytpmapedhigjalaa
end
section
/- FileCancels: the walk. -/
namespace Go.Proofs.Ytpmapedhigjalaa
set_option maxRecDepth 100000
set_option maxHeartbeats 4000000
set_option linter.unusedVariables false
set_option linter.unusedSimpArgs false
open Go.Sx

theorem Snd.st_g {z : Snd} (hg : z.gone = false) (h : ¬ z.st = 2) : z.st = 0 := by
  unfold Snd.st at h ⊢; rw [hg] at h ⊢; cases hf : z.full <;> rw [hf] at h <;> simp_all
theorem cancels26_ok (E : Env) (bv : Value) (bs : List Int) (n x : Int) (hs : Sl E [] 1 bv bs.length (bs.map (.int .u8))) (hb : Byt bs) (hx : U64 x) : Does Try.prog 8 #[bv, .agg #[.int .i64 n, .int .u64 x]] E ([]) fun r H' => r = .bool true ∧ H' = [] := by
  refine Does.pure hs.len fun hlb => ?_
  refine Does.pure (Sl.shape hs) fun ⟨a0, c0, hv0⟩ => ?_
  subst hv0
  by_cases hL : bs.length > 4096
  · refine Does.go _ _ Try.func8 rfl Try.ntmps8 rfl rfl ?_
    refine Body.seq ?_
    refine Body.region ?_
    refine Ops.s (Stp.box (lk rfl) rfl (fun b3 => ?_)) rfl
    refine Ops.u (Dtu.asg (lk rfl)) rfl ?_
    refine Ops.nil ?_
    refine Then.next ?_
    refine Body.seq ?_
    refine Body.seq ?_
    refine Body.region ?_
    refine Ops.u (Dtu.mv (lk rfl)) rfl ?_
    refine Ops.u (Dtu.lenS Try.underlying73 (Sl.up hs) (lk rfl)) rfl ?_
    refine Ops.u (Dtu.gtr (lk rfl) (lk rfl)) rfl ?_
    refine Ops.nil ?_
    refine Then.next ?_
    refine Body.condP (lk rfl) (fun _ => ?_) (fun hn => absurd (by first | omega | assumption | decide) hn)
    refine Body.seq ?_
    refine Body.region ?_
    refine Ops.s (Stp.call rfl Try.call36 (lks rfl) (fun E' le hat => alive26_ok E') ?_) rfl
    rintro _ _ ⟨rfl, rfl⟩
    refine Ops.u (Dtu.asg (lk rfl)) rfl ?_
    refine Ops.nil ?_
    refine Then.next ?_
    refine Body.ret ?_
    refine Then.ret ?_
    exact ⟨.inr rfl, _, pk [] rfl, rfl, rfl⟩
  have hi : infoR 1 ⟨#[102]⟩ bs.length = true := decide_eq_true ⟨by decide, by decide, by decide, by decide, by omega, by omega⟩
  have ok0 : (Snd.new 1 ⟨#[102]⟩ bs).Ok := ⟨by show bs.length ≤ _; omega, Nat.two_pow_pos _⟩
  have ok1 := Snd.know_ok ok0 (n := n) hx
  have hg1 : ((Snd.new 1 ⟨#[102]⟩ bs).know n x).gone = false := by unfold Snd.know; split <;> rfl
  have hst := Snd.left_st ok1 hg1
  have hn1 : ((Snd.new 1 ⟨#[102]⟩ bs).know n x).n = (bs.length + 63) / 64 := Snd.know_n _ _ _
  have hf0 : (Snd.new 1 ⟨#[102]⟩ bs).n = (bs.length + 63) / 64 := rfl
  have hfg : (Snd.new 1 ⟨#[102]⟩ bs).gone = false := rfl
  have hf : askF (bmR n x) n (Snd.new 1 ⟨#[102]⟩ bs).n false ≠ 0 → ((Snd.new 1 ⟨#[102]⟩ bs).know n x).left = (bs.length + 63) / 64 := fun h => by
    rw [show (Snd.new 1 ⟨#[102]⟩ bs).know n x = Snd.new 1 ⟨#[102]⟩ bs from if_neg h]
    show (Snd.new 1 ⟨#[102]⟩ bs).n - pc _ 0 = _
    rw [pc_zero]; rfl
  have hge : (Snd.new 1 ⟨#[102]⟩ bs).gone = false := rfl
  by_cases hl : ((Snd.new 1 ⟨#[102]⟩ bs).know n x).left = 0
  · have h2 := hst.1 hl
    have h3 : ¬ ((Snd.new 1 ⟨#[102]⟩ bs).know n x).st = 0 := by omega
    have h4 : ((Snd.new 1 ⟨#[102]⟩ bs).know n x).cancel = (Snd.new 1 ⟨#[102]⟩ bs).know n x := if_neg h3
    have h5 : (if ((Snd.new 1 ⟨#[102]⟩ bs).know n x).st = 0 then (0 : Int) else 7) = 7 := if_neg h3
    have h6 : ((Snd.new 1 ⟨#[102]⟩ bs).know n x).cancel.st = 2 := by rw [h4]; exact h2
    by_cases hf1 : askF (bmR n x) n (Snd.new 1 ⟨#[102]⟩ bs).n (Snd.new 1 ⟨#[102]⟩ bs).gone = 0
    · refine Does.go _ _ Try.func8 rfl Try.ntmps8 rfl rfl ?_
      refine Body.seq ?_
      refine Body.region ?_
      refine Ops.s (Stp.box (lk rfl) rfl (fun b3 => ?_)) rfl
      refine Ops.u (Dtu.asg (lk rfl)) rfl ?_
      refine Ops.nil ?_
      refine Then.next ?_
      refine Body.seq ?_
      refine Body.seq ?_
      refine Body.region ?_
      refine Ops.u (Dtu.mv (lk rfl)) rfl ?_
      refine Ops.u (Dtu.lenS Try.underlying73 (Sl.up hs) (lk rfl)) rfl ?_
      refine Ops.u (Dtu.gtr (lk rfl) (lk rfl)) rfl ?_
      refine Ops.nil ?_
      refine Then.next ?_
      refine Body.condP (lk rfl) (fun hy => absurd hy (by first | omega | assumption | decide)) (fun _ => ?_)
      refine Body.skip ?_
      refine Then.next ?_
      refine Body.seq ?_
      refine Body.region ?_
      refine Ops.u (Dtu.mv (lk rfl)) rfl ?_
      refine Ops.s (Stp.call rfl Try.call37 (lks rfl) (fun E' le hat => new_s E' _ _ _ bs (Sl.mono hs le) hb (by assumption)) ?_) rfl
      rintro _ _ ⟨nb23, rfl, rfl⟩
      refine Ops.u (Dtu.mv (lk rfl)) rfl ?_
      refine Ops.u (Dtu.ext (lk rfl) rfl) rfl ?_
      refine Ops.u (Dtu.ext (lk rfl) rfl) rfl ?_
      refine Ops.u (Dtu.asg (lk rfl)) rfl ?_
      refine Ops.u (Dtu.asg (lk rfl)) rfl ?_
      refine Ops.nil ?_
      refine Then.next ?_
      refine Body.seq ?_
      refine Body.seq ?_
      refine Body.region ?_
      refine Ops.u (Dtu.mv (lk rfl)) rfl ?_
      refine Ops.u (Dtu.neq (lk rfl) (lk rfl)) rfl ?_
      refine Ops.u (Dtu.mv (lk rfl)) rfl ?_
      refine Ops.decP 28 rfl (fun hy => absurd hy (by first | omega | assumption | decide)) (fun _ => ?_)
      refine Ops.gu rfl rfl rfl (Dtu.mv (lk rfl)) rfl ?_
      refine Ops.gu rfl rfl rfl (Dtu.eqNil Try.underlying75 (lk rfl) (lk rfl)) rfl ?_
      refine Ops.u (Dtu.pickF (lk rfl) (lk rfl)) rfl ?_
      refine Ops.nil ?_
      refine Then.next ?_
      refine Body.condF (lk rfl) ?_
      refine Body.skip ?_
      refine Then.next ?_
      refine Body.seq ?_
      refine Body.region ?_
      refine Ops.u (Dtu.mv (lk rfl)) rfl ?_
      refine Ops.d (Det.lda Try.isAgg86 Try.sizeOf86 (lk rfl) (Rds.ow (m := 2) 1 rfl rfl) rfl) rfl ?_
      refine Ops.s (Stp.callOwn [0] rfl rfl Try.call46 (lks rfl) (fun E' le hat => know_s E' _ _ _ _ (by first | assumption | omega)) ?_) rfl
      rintro _ _ ⟨rfl, rfl⟩
      refine Ops.u (Dtu.asg (lk rfl)) rfl ?_
      refine Ops.nil ?_
      refine Then.next ?_
      refine Body.seq ?_
      refine Body.region ?_
      refine Ops.u (Dtu.mv (lk rfl)) rfl ?_
      refine Ops.s (Stp.callOwn [0] rfl rfl Try.call51 (lks rfl) (fun E' le hat => left_s E' _ _) ?_) rfl
      rintro _ _ ⟨rfl, rfl⟩
      refine Ops.u (Dtu.eql (lk rfl) (lk rfl)) rfl ?_
      refine Ops.u (Dtu.asg (lk rfl)) rfl ?_
      refine Ops.nil ?_
      refine Then.next ?_
      refine Body.seq ?_
      refine Body.region ?_
      refine Ops.u (Dtu.mv (lk rfl)) rfl ?_
      refine Ops.s (Stp.callOwn [0] rfl rfl Try.call49 (lks rfl) (fun E' le hat => cancel_s E' _ _) ?_) rfl
      rintro _ _ ⟨rfl, rfl⟩
      refine Ops.u (Dtu.asg (lk rfl)) rfl ?_
      refine Ops.nil ?_
      refine Then.next ?_
      refine Body.seq ?_
      refine Body.seq ?_
      refine Body.region ?_
      refine Ops.u (Dtu.mv (lk rfl)) rfl ?_
      refine Ops.nil ?_
      refine Then.next ?_
      refine Body.condP (lk rfl) (fun _ => ?_) (fun hn => absurd (by first | omega | assumption | decide) hn)
      refine Body.seq ?_
      refine Body.region ?_
      refine Ops.s (Stp.call rfl Try.call36 (lks rfl) (fun E' le hat => alive26_ok E') ?_) rfl
      rintro _ _ ⟨rfl, rfl⟩
      refine Ops.u (Dtu.mv (lk rfl)) rfl ?_
      refine Ops.gu rfl rfl rfl (Dtu.mv (lk rfl)) rfl ?_
      refine Ops.gu rfl rfl rfl (Dtu.eql (lk rfl) (lk rfl)) rfl ?_
      refine Ops.u (Dtu.pickT (lk rfl) (lk rfl)) rfl ?_
      refine Ops.u (Dtu.mv (lk rfl)) rfl ?_
      refine Ops.decP 46 rfl (fun _ => ?_) (fun hn => absurd (by first | omega | assumption | decide) hn)
      refine Ops.gu rfl rfl rfl (Dtu.mv (lk rfl)) rfl ?_
      refine Ops.gs rfl rfl rfl (Stp.callOwn [0] rfl rfl Try.call53 (lks rfl) (fun E' le hat => state_s E' _ _) ?_) rfl
      rintro _ _ ⟨rfl, rfl⟩
      refine Ops.gu rfl rfl rfl (Dtu.eql (lk rfl) (lk rfl)) rfl ?_
      refine Ops.u (Dtu.pickT (lk rfl) (lk rfl)) rfl ?_
      refine Ops.u (Dtu.mv (lk rfl)) rfl ?_
      refine Ops.decP 51 rfl (fun _ => ?_) (fun hn => absurd (by first | omega | assumption | decide) hn)
      refine Ops.gu rfl rfl rfl (Dtu.mv (lk rfl)) rfl ?_
      refine Ops.gu rfl rfl rfl (Dtu.eql (lk rfl) (lk rfl)) rfl ?_
      refine Ops.gu rfl rfl rfl (Dtu.mv (lk rfl)) rfl ?_
      refine Ops.decP 54 rfl (fun _ => ?_) (fun hn => absurd (by first | omega | assumption | decide) hn)
      refine Ops.gn rfl rfl rfl rfl rfl ?_
      refine Ops.gn rfl rfl rfl rfl rfl ?_
      refine Ops.gn rfl rfl rfl rfl rfl ?_
      refine Ops.gu rfl rfl rfl (Dtu.pickT (lk rfl) (lk rfl)) rfl ?_
      refine Ops.u (Dtu.pickT (lk rfl) (lk rfl)) rfl ?_
      refine Ops.u (Dtu.asg (lk rfl)) rfl ?_
      refine Ops.nil ?_
      refine Then.next ?_
      refine Body.ret ?_
      refine Then.ret ?_
      exact ⟨.inr rfl, _, pk [] rfl, rfl, rfl⟩
    · have hb0 : bs.length = 0 := by have := hf hf1; omega
      refine Does.go _ _ Try.func8 rfl Try.ntmps8 rfl rfl ?_
      refine Body.seq ?_
      refine Body.region ?_
      refine Ops.s (Stp.box (lk rfl) rfl (fun b3 => ?_)) rfl
      refine Ops.u (Dtu.asg (lk rfl)) rfl ?_
      refine Ops.nil ?_
      refine Then.next ?_
      refine Body.seq ?_
      refine Body.seq ?_
      refine Body.region ?_
      refine Ops.u (Dtu.mv (lk rfl)) rfl ?_
      refine Ops.u (Dtu.lenS Try.underlying73 (Sl.up hs) (lk rfl)) rfl ?_
      refine Ops.u (Dtu.gtr (lk rfl) (lk rfl)) rfl ?_
      refine Ops.nil ?_
      refine Then.next ?_
      refine Body.condP (lk rfl) (fun hy => absurd hy (by first | omega | assumption | decide)) (fun _ => ?_)
      refine Body.skip ?_
      refine Then.next ?_
      refine Body.seq ?_
      refine Body.region ?_
      refine Ops.u (Dtu.mv (lk rfl)) rfl ?_
      refine Ops.s (Stp.call rfl Try.call37 (lks rfl) (fun E' le hat => new_s E' _ _ _ bs (Sl.mono hs le) hb (by assumption)) ?_) rfl
      rintro _ _ ⟨nb23, rfl, rfl⟩
      refine Ops.u (Dtu.mv (lk rfl)) rfl ?_
      refine Ops.u (Dtu.ext (lk rfl) rfl) rfl ?_
      refine Ops.u (Dtu.ext (lk rfl) rfl) rfl ?_
      refine Ops.u (Dtu.asg (lk rfl)) rfl ?_
      refine Ops.u (Dtu.asg (lk rfl)) rfl ?_
      refine Ops.nil ?_
      refine Then.next ?_
      refine Body.seq ?_
      refine Body.seq ?_
      refine Body.region ?_
      refine Ops.u (Dtu.mv (lk rfl)) rfl ?_
      refine Ops.u (Dtu.neq (lk rfl) (lk rfl)) rfl ?_
      refine Ops.u (Dtu.mv (lk rfl)) rfl ?_
      refine Ops.decP 28 rfl (fun hy => absurd hy (by first | omega | assumption | decide)) (fun _ => ?_)
      refine Ops.gu rfl rfl rfl (Dtu.mv (lk rfl)) rfl ?_
      refine Ops.gu rfl rfl rfl (Dtu.eqNil Try.underlying75 (lk rfl) (lk rfl)) rfl ?_
      refine Ops.u (Dtu.pickF (lk rfl) (lk rfl)) rfl ?_
      refine Ops.nil ?_
      refine Then.next ?_
      refine Body.condF (lk rfl) ?_
      refine Body.skip ?_
      refine Then.next ?_
      refine Body.seq ?_
      refine Body.region ?_
      refine Ops.u (Dtu.mv (lk rfl)) rfl ?_
      refine Ops.d (Det.lda Try.isAgg86 Try.sizeOf86 (lk rfl) (Rds.ow (m := 2) 1 rfl rfl) rfl) rfl ?_
      refine Ops.s (Stp.callOwn [0] rfl rfl Try.call46 (lks rfl) (fun E' le hat => know_s E' _ _ _ _ (by first | assumption | omega)) ?_) rfl
      rintro _ _ ⟨rfl, rfl⟩
      refine Ops.u (Dtu.asg (lk rfl)) rfl ?_
      refine Ops.nil ?_
      refine Then.next ?_
      refine Body.seq ?_
      refine Body.region ?_
      refine Ops.u (Dtu.mv (lk rfl)) rfl ?_
      refine Ops.s (Stp.callOwn [0] rfl rfl Try.call51 (lks rfl) (fun E' le hat => left_s E' _ _) ?_) rfl
      rintro _ _ ⟨rfl, rfl⟩
      refine Ops.u (Dtu.eql (lk rfl) (lk rfl)) rfl ?_
      refine Ops.u (Dtu.asg (lk rfl)) rfl ?_
      refine Ops.nil ?_
      refine Then.next ?_
      refine Body.seq ?_
      refine Body.region ?_
      refine Ops.u (Dtu.mv (lk rfl)) rfl ?_
      refine Ops.s (Stp.callOwn [0] rfl rfl Try.call49 (lks rfl) (fun E' le hat => cancel_s E' _ _) ?_) rfl
      rintro _ _ ⟨rfl, rfl⟩
      refine Ops.u (Dtu.asg (lk rfl)) rfl ?_
      refine Ops.nil ?_
      refine Then.next ?_
      refine Body.seq ?_
      refine Body.seq ?_
      refine Body.region ?_
      refine Ops.u (Dtu.mv (lk rfl)) rfl ?_
      refine Ops.nil ?_
      refine Then.next ?_
      refine Body.condP (lk rfl) (fun _ => ?_) (fun hn => absurd (by first | omega | assumption | decide) hn)
      refine Body.seq ?_
      refine Body.region ?_
      refine Ops.s (Stp.call rfl Try.call36 (lks rfl) (fun E' le hat => alive26_ok E') ?_) rfl
      rintro _ _ ⟨rfl, rfl⟩
      refine Ops.u (Dtu.mv (lk rfl)) rfl ?_
      refine Ops.gu rfl rfl rfl (Dtu.mv (lk rfl)) rfl ?_
      refine Ops.gu rfl rfl rfl (Dtu.eql (lk rfl) (lk rfl)) rfl ?_
      refine Ops.u (Dtu.pickT (lk rfl) (lk rfl)) rfl ?_
      refine Ops.u (Dtu.mv (lk rfl)) rfl ?_
      refine Ops.decP 46 rfl (fun _ => ?_) (fun hn => absurd (by first | omega | assumption | decide) hn)
      refine Ops.gu rfl rfl rfl (Dtu.mv (lk rfl)) rfl ?_
      refine Ops.gs rfl rfl rfl (Stp.callOwn [0] rfl rfl Try.call53 (lks rfl) (fun E' le hat => state_s E' _ _) ?_) rfl
      rintro _ _ ⟨rfl, rfl⟩
      refine Ops.gu rfl rfl rfl (Dtu.eql (lk rfl) (lk rfl)) rfl ?_
      refine Ops.u (Dtu.pickT (lk rfl) (lk rfl)) rfl ?_
      refine Ops.u (Dtu.mv (lk rfl)) rfl ?_
      refine Ops.decP 51 rfl (fun _ => ?_) (fun hn => absurd (by first | omega | assumption | decide) hn)
      refine Ops.gu rfl rfl rfl (Dtu.mv (lk rfl)) rfl ?_
      refine Ops.gu rfl rfl rfl (Dtu.eql (lk rfl) (lk rfl)) rfl ?_
      refine Ops.gu rfl rfl rfl (Dtu.mv (lk rfl)) rfl ?_
      refine Ops.decP 54 rfl (fun hy => absurd hy (by first | omega | assumption | decide)) (fun _ => ?_)
      refine Ops.gu rfl rfl rfl (Dtu.mv (lk rfl)) rfl ?_
      refine Ops.gu rfl rfl rfl (Dtu.lenS Try.underlying73 (Sl.up hs) (lk rfl)) rfl ?_
      refine Ops.gu rfl rfl rfl (Dtu.eql (lk rfl) (lk rfl)) rfl ?_
      refine Ops.gu rfl rfl rfl (Dtu.pickF (lk rfl) (lk rfl)) rfl ?_
      refine Ops.u (Dtu.pickT (lk rfl) (lk rfl)) rfl ?_
      refine Ops.u (Dtu.asg (lk rfl)) rfl ?_
      refine Ops.nil ?_
      refine Then.next ?_
      refine Body.ret ?_
      refine Then.ret ?_
      exact ⟨.inr rfl, _, pk [] rfl, bEq (by simp [hb0]), rfl⟩
  · have h3 : ((Snd.new 1 ⟨#[102]⟩ bs).know n x).st = 0 := Snd.st_g hg1 fun h => hl (hst.2 h)
    have h4 : ((Snd.new 1 ⟨#[102]⟩ bs).know n x).cancel = ⟨_, _, _, _, _, _, true⟩ := if_pos h3
    have k1 : ((Snd.new 1 ⟨#[102]⟩ bs).know n x).cancel.st = 1 := by rw [h4]; rfl
    have k2 : ((Snd.new 1 ⟨#[102]⟩ bs).know n x).cancel.left = 0 := by rw [h4]; rfl
    have k3 : ((Snd.new 1 ⟨#[102]⟩ bs).know n x).cancel.gone = true := by rw [h4]
    have k4 : ((Snd.new 1 ⟨#[102]⟩ bs).know n x).cancel.n = (Snd.new 1 ⟨#[102]⟩ bs).n := by rw [h4, hf0]; exact hn1
    have k5 : ((Snd.new 1 ⟨#[102]⟩ bs).know n x).cancel.Ok := Snd.cancel_ok ok1
    clear h4 hst hg1 hf hn1 ok0 ok1
    refine Does.go _ _ Try.func8 rfl Try.ntmps8 rfl rfl ?_
    refine Body.seq ?_
    refine Body.region ?_
    refine Ops.s (Stp.box (lk rfl) rfl (fun b3 => ?_)) rfl
    refine Ops.u (Dtu.asg (lk rfl)) rfl ?_
    refine Ops.nil ?_
    refine Then.next ?_
    refine Body.seq ?_
    refine Body.seq ?_
    refine Body.region ?_
    refine Ops.u (Dtu.mv (lk rfl)) rfl ?_
    refine Ops.u (Dtu.lenS Try.underlying73 (Sl.up hs) (lk rfl)) rfl ?_
    refine Ops.u (Dtu.gtr (lk rfl) (lk rfl)) rfl ?_
    refine Ops.nil ?_
    refine Then.next ?_
    refine Body.condP (lk rfl) (fun hy => absurd hy (by first | omega | assumption | decide)) (fun _ => ?_)
    refine Body.skip ?_
    refine Then.next ?_
    refine Body.seq ?_
    refine Body.region ?_
    refine Ops.u (Dtu.mv (lk rfl)) rfl ?_
    refine Ops.s (Stp.call rfl Try.call37 (lks rfl) (fun E' le hat => new_s E' _ _ _ bs (Sl.mono hs le) hb (by assumption)) ?_) rfl
    rintro _ _ ⟨nb23, rfl, rfl⟩
    refine Ops.u (Dtu.mv (lk rfl)) rfl ?_
    refine Ops.u (Dtu.ext (lk rfl) rfl) rfl ?_
    refine Ops.u (Dtu.ext (lk rfl) rfl) rfl ?_
    refine Ops.u (Dtu.asg (lk rfl)) rfl ?_
    refine Ops.u (Dtu.asg (lk rfl)) rfl ?_
    refine Ops.nil ?_
    refine Then.next ?_
    refine Body.seq ?_
    refine Body.seq ?_
    refine Body.region ?_
    refine Ops.u (Dtu.mv (lk rfl)) rfl ?_
    refine Ops.u (Dtu.neq (lk rfl) (lk rfl)) rfl ?_
    refine Ops.u (Dtu.mv (lk rfl)) rfl ?_
    refine Ops.decP 28 rfl (fun hy => absurd hy (by first | omega | assumption | decide)) (fun _ => ?_)
    refine Ops.gu rfl rfl rfl (Dtu.mv (lk rfl)) rfl ?_
    refine Ops.gu rfl rfl rfl (Dtu.eqNil Try.underlying75 (lk rfl) (lk rfl)) rfl ?_
    refine Ops.u (Dtu.pickF (lk rfl) (lk rfl)) rfl ?_
    refine Ops.nil ?_
    refine Then.next ?_
    refine Body.condF (lk rfl) ?_
    refine Body.skip ?_
    refine Then.next ?_
    refine Body.seq ?_
    refine Body.region ?_
    refine Ops.u (Dtu.mv (lk rfl)) rfl ?_
    refine Ops.d (Det.lda Try.isAgg86 Try.sizeOf86 (lk rfl) (Rds.ow (m := 2) 1 rfl rfl) rfl) rfl ?_
    refine Ops.s (Stp.callOwn [0] rfl rfl Try.call46 (lks rfl) (fun E' le hat => know_s E' _ _ _ _ (by first | assumption | omega)) ?_) rfl
    rintro _ _ ⟨rfl, rfl⟩
    refine Ops.u (Dtu.asg (lk rfl)) rfl ?_
    refine Ops.nil ?_
    refine Then.next ?_
    refine Body.seq ?_
    refine Body.region ?_
    refine Ops.u (Dtu.mv (lk rfl)) rfl ?_
    refine Ops.s (Stp.callOwn [0] rfl rfl Try.call51 (lks rfl) (fun E' le hat => left_s E' _ _) ?_) rfl
    rintro _ _ ⟨rfl, rfl⟩
    refine Ops.u (Dtu.eql (lk rfl) (lk rfl)) rfl ?_
    refine Ops.u (Dtu.asg (lk rfl)) rfl ?_
    refine Ops.nil ?_
    refine Then.next ?_
    refine Body.seq ?_
    refine Body.region ?_
    refine Ops.u (Dtu.mv (lk rfl)) rfl ?_
    refine Ops.s (Stp.callOwn [0] rfl rfl Try.call49 (lks rfl) (fun E' le hat => cancel_s E' _ _) ?_) rfl
    rintro _ _ ⟨rfl, rfl⟩
    refine Ops.u (Dtu.asg (lk rfl)) rfl ?_
    refine Ops.nil ?_
    refine Then.next ?_
    refine Body.seq ?_
    refine Body.seq ?_
    refine Body.region ?_
    refine Ops.u (Dtu.mv (lk rfl)) rfl ?_
    refine Ops.nil ?_
    refine Then.next ?_
    refine Body.condP (lk rfl) (fun hy => absurd hy (by first | omega | assumption | decide)) (fun _ => ?_)
    refine Body.skip ?_
    refine Then.next ?_
    generalize ((Snd.new 1 ⟨#[102]⟩ bs).know n x).cancel = z at *
    have hA : askF (bmR n x) n z.n z.gone ≠ 0 := by rw [k3]; unfold askF; split <;> simp
    have kk : z.know n x = z := if_neg hA
    have ka : z.anew n x = z := if_neg hA
    have k0 : ¬ z.st = 0 := by omega
    refine Body.seq ?_
    refine Body.region ?_
    refine Ops.u (Dtu.mv (lk rfl)) rfl ?_
    refine Ops.s (Stp.callOwn [0] rfl rfl Try.call45 (lks rfl) (fun E' le hat => next_sn E' _ _ (by first | assumption | omega)) ?_) rfl
    rintro _ _ ⟨rfl, rfl⟩
    refine Ops.u (Dtu.mv (lk rfl)) rfl ?_
    refine Ops.u (Dtu.ext (lk rfl) rfl) rfl ?_
    refine Ops.u (Dtu.ext (lk rfl) rfl) rfl ?_
    refine Ops.u (Dtu.ext (lk rfl) rfl) rfl ?_
    refine Ops.u (Dtu.asg (lk rfl)) rfl ?_
    refine Ops.u (Dtu.asg (lk rfl)) rfl ?_
    refine Ops.u (Dtu.asg (lk rfl)) rfl ?_
    refine Ops.nil ?_
    refine Then.next ?_
    refine Body.seq ?_
    refine Body.region ?_
    refine Ops.u (Dtu.mv (lk rfl)) rfl ?_
    refine Ops.s (Stp.callOwn [0] rfl rfl Try.call40 (lks rfl) (fun E' le hat => peek_sn E' _ _ (by first | assumption | omega)) ?_) rfl
    rintro _ _ ⟨rfl, rfl⟩
    refine Ops.u (Dtu.mv (lk rfl)) rfl ?_
    refine Ops.u (Dtu.ext (lk rfl) rfl) rfl ?_
    refine Ops.u (Dtu.ext (lk rfl) rfl) rfl ?_
    refine Ops.u (Dtu.asg (lk rfl)) rfl ?_
    refine Ops.u (Dtu.asg (lk rfl)) rfl ?_
    refine Ops.nil ?_
    refine Then.next ?_
    refine Body.seq ?_
    refine Body.region ?_
    refine Ops.u (Dtu.mv (lk rfl)) rfl ?_
    refine Ops.d (Det.lda Try.isAgg86 Try.sizeOf86 (lk rfl) (Rds.ow (m := 2) 1 rfl rfl) rfl) rfl ?_
    refine Ops.s (Stp.callOwn [0] rfl rfl Try.call46 (lks rfl) (fun E' le hat => know_s E' _ _ _ _ (by first | assumption | omega)) ?_) rfl
    rintro _ _ ⟨rfl, rfl⟩
    refine Ops.u (Dtu.asg (lk rfl)) rfl ?_
    refine Ops.nil ?_
    refine Then.next ?_
    rw [kk]
    refine Body.seq ?_
    refine Body.region ?_
    refine Ops.u (Dtu.mv (lk rfl)) rfl ?_
    refine Ops.d (Det.lda Try.isAgg86 Try.sizeOf86 (lk rfl) (Rds.ow (m := 2) 1 rfl rfl) rfl) rfl ?_
    refine Ops.s (Stp.callOwn [0] rfl rfl Try.call48 (lks rfl) (fun E' le hat => anew_s E' _ _ _ _ (by first | assumption | omega)) ?_) rfl
    rintro _ _ ⟨rfl, rfl⟩
    refine Ops.u (Dtu.asg (lk rfl)) rfl ?_
    refine Ops.nil ?_
    refine Then.next ?_
    rw [ka]
    by_cases hR : bmR n x = true ∧ n = (Snd.new 1 ⟨#[102]⟩ bs).n
    · have w1 : askF (bmR n x) n (Snd.new 1 ⟨#[102]⟩ bs).n (Snd.new 1 ⟨#[102]⟩ bs).gone = 0 := by rw [hge, askF, if_pos hR]; rfl
      have w2 : askF (bmR n x) n z.n z.gone = 41 := by rw [k3, k4, askF, if_pos hR]; rfl
      have w3 : (if z.st = 0 then (0 : Int) else 7) = 7 := if_neg k0
      refine Body.seq ?_
      refine Body.region ?_
      refine Ops.s (Stp.call rfl Try.call36 (lks rfl) (fun E' le hat => alive26_ok E') ?_) rfl
      rintro _ _ ⟨rfl, rfl⟩
      refine Ops.u (Dtu.mv (lk rfl)) rfl ?_
      refine Ops.gu rfl rfl rfl (Dtu.mv (lk rfl)) rfl ?_
      refine Ops.gu rfl rfl rfl (Dtu.eql (lk rfl) (lk rfl)) rfl ?_
      refine Ops.u (Dtu.pickT (lk rfl) (lk rfl)) rfl ?_
      refine Ops.u (Dtu.mv (lk rfl)) rfl ?_
      refine Ops.decP 82 rfl (fun _ => ?_) (fun hn => absurd (by first | omega | assumption | decide) hn)
      refine Ops.gu rfl rfl rfl (Dtu.mv (lk rfl)) rfl ?_
      refine Ops.gs rfl rfl rfl (Stp.callOwn [0] rfl rfl Try.call53 (lks rfl) (fun E' le hat => state_s E' _ _) ?_) rfl
      rintro _ _ ⟨rfl, rfl⟩
      refine Ops.gu rfl rfl rfl (Dtu.eql (lk rfl) (lk rfl)) rfl ?_
      refine Ops.u (Dtu.pickT (lk rfl) (lk rfl)) rfl ?_
      refine Ops.u (Dtu.mv (lk rfl)) rfl ?_
      refine Ops.decP 87 rfl (fun _ => ?_) (fun hn => absurd (by first | omega | assumption | decide) hn)
      refine Ops.gu rfl rfl rfl (Dtu.mv (lk rfl)) rfl ?_
      refine Ops.gu rfl rfl rfl (Dtu.not (lk rfl)) rfl ?_
      refine Ops.u (Dtu.pickT (lk rfl) (lk rfl)) rfl ?_
      refine Ops.u (Dtu.mv (lk rfl)) rfl ?_
      refine Ops.gu rfl rfl rfl (Dtu.mv (lk rfl)) rfl ?_
      refine Ops.gu rfl rfl rfl (Dtu.not (lk rfl)) rfl ?_
      refine Ops.u (Dtu.pickT (lk rfl) (lk rfl)) rfl ?_
      refine Ops.u (Dtu.mv (lk rfl)) rfl ?_
      refine Ops.gu rfl rfl rfl (Dtu.mv (lk rfl)) rfl ?_
      refine Ops.gu rfl rfl rfl (Dtu.eql (lk rfl) (lk rfl)) rfl ?_
      refine Ops.u (Dtu.pickT (lk rfl) (lk rfl)) rfl ?_
      refine Ops.u (Dtu.mv (lk rfl)) rfl ?_
      refine Ops.decP 99 rfl (fun _ => ?_) (fun hn => absurd (by first | omega | assumption | decide) hn)
      refine Ops.gu rfl rfl rfl (Dtu.mv (lk rfl)) rfl ?_
      refine Ops.gs rfl rfl rfl (Stp.callOwn [0] rfl rfl Try.call57 (lks rfl) (fun E' le hat => costs_sn E' _ _ _ (by first | assumption | omega)) ?_) rfl
      rintro _ _ ⟨rfl, rfl⟩
      refine Ops.gu rfl rfl rfl (Dtu.len Try.underlying107 (lk rfl)) rfl ?_
      refine Ops.gu rfl rfl rfl (Dtu.eql (lk rfl) (lk rfl)) rfl ?_
      refine Ops.u (Dtu.pickT (lk rfl) (lk rfl)) rfl ?_
      refine Ops.u (Dtu.mv (lk rfl)) rfl ?_
      refine Ops.decP 105 rfl (fun _ => ?_) (fun hn => absurd (by first | omega | assumption | decide) hn)
      refine Ops.gu rfl rfl rfl (Dtu.mv (lk rfl)) rfl ?_
      refine Ops.gs rfl rfl rfl (Stp.callOwn [0] rfl rfl Try.call51 (lks rfl) (fun E' le hat => left_s E' _ _) ?_) rfl
      rintro _ _ ⟨rfl, rfl⟩
      refine Ops.gu rfl rfl rfl (Dtu.eql (lk rfl) (lk rfl)) rfl ?_
      refine Ops.u (Dtu.pickT (lk rfl) (lk rfl)) rfl ?_
      refine Ops.u (Dtu.mv (lk rfl)) rfl ?_
      refine Ops.decP 110 rfl (fun _ => ?_) (fun hn => absurd (by first | omega | assumption | decide) hn)
      refine Ops.gu rfl rfl rfl (Dtu.mv (lk rfl)) rfl ?_
      refine Ops.gu rfl rfl rfl (Dtu.eql (lk rfl) (lk rfl)) rfl ?_
      refine Ops.gu rfl rfl rfl (Dtu.mv (lk rfl)) rfl ?_
      refine Ops.decP 113 rfl (fun _ => ?_) (fun hn => absurd (by first | omega | assumption | decide) hn)
      refine Ops.gu rfl rfl rfl (Dtu.mv (lk rfl)) rfl ?_
      refine Ops.gu rfl rfl rfl (Dtu.eql (lk rfl) (lk rfl)) rfl ?_
      refine Ops.gu rfl rfl rfl (Dtu.pickT (lk rfl) (lk rfl)) rfl ?_
      refine Ops.gu rfl rfl rfl (Dtu.mv (lk rfl)) rfl ?_
      refine Ops.decP 117 rfl (fun _ => ?_) (fun hn => absurd (by first | omega | assumption | decide) hn)
      refine Ops.gu rfl rfl rfl (Dtu.mv (lk rfl)) rfl ?_
      refine Ops.gu rfl rfl rfl (Dtu.eql (lk rfl) (lk rfl)) rfl ?_
      refine Ops.gu rfl rfl rfl (Dtu.pickT (lk rfl) (lk rfl)) rfl ?_
      refine Ops.gu rfl rfl rfl (Dtu.mv (lk rfl)) rfl ?_
      refine Ops.decP 121 rfl (fun _ => ?_) (fun hn => absurd (by first | omega | assumption | decide) hn)
      refine Ops.gn rfl rfl rfl rfl rfl ?_
      refine Ops.gn rfl rfl rfl rfl rfl ?_
      refine Ops.gn rfl rfl rfl rfl rfl ?_
      refine Ops.gn rfl rfl rfl rfl rfl ?_
      refine Ops.gn rfl rfl rfl rfl rfl ?_
      refine Ops.gn rfl rfl rfl rfl rfl ?_
      refine Ops.gn rfl rfl rfl rfl rfl ?_
      refine Ops.gn rfl rfl rfl rfl rfl ?_
      refine Ops.gn rfl rfl rfl rfl rfl ?_
      refine Ops.gn rfl rfl rfl rfl rfl ?_
      refine Ops.gu rfl rfl rfl (Dtu.pickT (lk rfl) (lk rfl)) rfl ?_
      refine Ops.u (Dtu.pickT (lk rfl) (lk rfl)) rfl ?_
      refine Ops.u (Dtu.mv (lk rfl)) rfl ?_
      refine Ops.gu rfl rfl rfl (Dtu.mv (lk rfl)) rfl ?_
      refine Ops.gs rfl rfl rfl (Stp.callOwn [0] rfl rfl Try.call49 (lks rfl) (fun E' le hat => cancel_s E' _ _) ?_) rfl
      rintro _ _ ⟨rfl, rfl⟩
      refine Ops.gu rfl rfl rfl (Dtu.eql (lk rfl) (lk rfl)) rfl ?_
      refine Ops.u (Dtu.pickT (lk rfl) (lk rfl)) rfl ?_
      refine Ops.u (Dtu.asg (lk rfl)) rfl ?_
      refine Ops.nil ?_
      refine Then.next ?_
      refine Body.ret ?_
      exact ⟨.inr rfl, _, pk [] rfl, congrArg Value.bool (decide_eq_true w3), rfl⟩
    · have w1 : askF (bmR n x) n (Snd.new 1 ⟨#[102]⟩ bs).n (Snd.new 1 ⟨#[102]⟩ bs).gone = 1 := by rw [askF, if_neg hR]
      have w2 : askF (bmR n x) n z.n z.gone = 1 := by rw [k4, askF, if_neg hR]
      have w3 : (if z.st = 0 then (0 : Int) else 7) = 7 := if_neg k0
      refine Body.seq ?_
      refine Body.region ?_
      refine Ops.s (Stp.call rfl Try.call36 (lks rfl) (fun E' le hat => alive26_ok E') ?_) rfl
      rintro _ _ ⟨rfl, rfl⟩
      refine Ops.u (Dtu.mv (lk rfl)) rfl ?_
      refine Ops.gu rfl rfl rfl (Dtu.mv (lk rfl)) rfl ?_
      refine Ops.gu rfl rfl rfl (Dtu.eql (lk rfl) (lk rfl)) rfl ?_
      refine Ops.u (Dtu.pickT (lk rfl) (lk rfl)) rfl ?_
      refine Ops.u (Dtu.mv (lk rfl)) rfl ?_
      refine Ops.decP 82 rfl (fun _ => ?_) (fun hn => absurd (by first | omega | assumption | decide) hn)
      refine Ops.gu rfl rfl rfl (Dtu.mv (lk rfl)) rfl ?_
      refine Ops.gs rfl rfl rfl (Stp.callOwn [0] rfl rfl Try.call53 (lks rfl) (fun E' le hat => state_s E' _ _) ?_) rfl
      rintro _ _ ⟨rfl, rfl⟩
      refine Ops.gu rfl rfl rfl (Dtu.eql (lk rfl) (lk rfl)) rfl ?_
      refine Ops.u (Dtu.pickT (lk rfl) (lk rfl)) rfl ?_
      refine Ops.u (Dtu.mv (lk rfl)) rfl ?_
      refine Ops.decP 87 rfl (fun _ => ?_) (fun hn => absurd (by first | omega | assumption | decide) hn)
      refine Ops.gu rfl rfl rfl (Dtu.mv (lk rfl)) rfl ?_
      refine Ops.gu rfl rfl rfl (Dtu.not (lk rfl)) rfl ?_
      refine Ops.u (Dtu.pickT (lk rfl) (lk rfl)) rfl ?_
      refine Ops.u (Dtu.mv (lk rfl)) rfl ?_
      refine Ops.gu rfl rfl rfl (Dtu.mv (lk rfl)) rfl ?_
      refine Ops.gu rfl rfl rfl (Dtu.not (lk rfl)) rfl ?_
      refine Ops.u (Dtu.pickT (lk rfl) (lk rfl)) rfl ?_
      refine Ops.u (Dtu.mv (lk rfl)) rfl ?_
      refine Ops.gu rfl rfl rfl (Dtu.mv (lk rfl)) rfl ?_
      refine Ops.gu rfl rfl rfl (Dtu.eql (lk rfl) (lk rfl)) rfl ?_
      refine Ops.u (Dtu.pickT (lk rfl) (lk rfl)) rfl ?_
      refine Ops.u (Dtu.mv (lk rfl)) rfl ?_
      refine Ops.decP 99 rfl (fun _ => ?_) (fun hn => absurd (by first | omega | assumption | decide) hn)
      refine Ops.gu rfl rfl rfl (Dtu.mv (lk rfl)) rfl ?_
      refine Ops.gs rfl rfl rfl (Stp.callOwn [0] rfl rfl Try.call57 (lks rfl) (fun E' le hat => costs_sn E' _ _ _ (by first | assumption | omega)) ?_) rfl
      rintro _ _ ⟨rfl, rfl⟩
      refine Ops.gu rfl rfl rfl (Dtu.len Try.underlying107 (lk rfl)) rfl ?_
      refine Ops.gu rfl rfl rfl (Dtu.eql (lk rfl) (lk rfl)) rfl ?_
      refine Ops.u (Dtu.pickT (lk rfl) (lk rfl)) rfl ?_
      refine Ops.u (Dtu.mv (lk rfl)) rfl ?_
      refine Ops.decP 105 rfl (fun _ => ?_) (fun hn => absurd (by first | omega | assumption | decide) hn)
      refine Ops.gu rfl rfl rfl (Dtu.mv (lk rfl)) rfl ?_
      refine Ops.gs rfl rfl rfl (Stp.callOwn [0] rfl rfl Try.call51 (lks rfl) (fun E' le hat => left_s E' _ _) ?_) rfl
      rintro _ _ ⟨rfl, rfl⟩
      refine Ops.gu rfl rfl rfl (Dtu.eql (lk rfl) (lk rfl)) rfl ?_
      refine Ops.u (Dtu.pickT (lk rfl) (lk rfl)) rfl ?_
      refine Ops.u (Dtu.mv (lk rfl)) rfl ?_
      refine Ops.decP 110 rfl (fun _ => ?_) (fun hn => absurd (by first | omega | assumption | decide) hn)
      refine Ops.gu rfl rfl rfl (Dtu.mv (lk rfl)) rfl ?_
      refine Ops.gu rfl rfl rfl (Dtu.eql (lk rfl) (lk rfl)) rfl ?_
      refine Ops.gu rfl rfl rfl (Dtu.mv (lk rfl)) rfl ?_
      refine Ops.decP 113 rfl (fun hy => absurd hy (by first | omega | assumption | decide)) (fun _ => ?_)
      refine Ops.gn rfl rfl rfl rfl rfl ?_
      refine Ops.gn rfl rfl rfl rfl rfl ?_
      refine Ops.gu rfl rfl rfl (Dtu.pickF (lk rfl) (lk rfl)) rfl ?_
      refine Ops.gu rfl rfl rfl (Dtu.mv (lk rfl)) rfl ?_
      refine Ops.gn rfl rfl rfl rfl rfl ?_
      refine Ops.gn rfl rfl rfl rfl rfl ?_
      refine Ops.gu rfl rfl rfl (Dtu.pickF (lk rfl) (lk rfl)) rfl ?_
      refine Ops.gu rfl rfl rfl (Dtu.mv (lk rfl)) rfl ?_
      refine Ops.gu rfl rfl rfl (Dtu.mv (lk rfl)) rfl ?_
      refine Ops.gu rfl rfl rfl (Dtu.eql (lk rfl) (lk rfl)) rfl ?_
      refine Ops.gu rfl rfl rfl (Dtu.mv (lk rfl)) rfl ?_
      refine Ops.decP 124 rfl (fun _ => ?_) (fun hn => absurd (by first | omega | assumption | decide) hn)
      refine Ops.gu rfl rfl rfl (Dtu.mv (lk rfl)) rfl ?_
      refine Ops.gu rfl rfl rfl (Dtu.eql (lk rfl) (lk rfl)) rfl ?_
      refine Ops.gu rfl rfl rfl (Dtu.pickT (lk rfl) (lk rfl)) rfl ?_
      refine Ops.gu rfl rfl rfl (Dtu.mv (lk rfl)) rfl ?_
      refine Ops.decP 128 rfl (fun _ => ?_) (fun hn => absurd (by first | omega | assumption | decide) hn)
      refine Ops.gu rfl rfl rfl (Dtu.mv (lk rfl)) rfl ?_
      refine Ops.gu rfl rfl rfl (Dtu.eql (lk rfl) (lk rfl)) rfl ?_
      refine Ops.gu rfl rfl rfl (Dtu.pickT (lk rfl) (lk rfl)) rfl ?_
      refine Ops.gu rfl rfl rfl (Dtu.pickF (lk rfl) (lk rfl)) rfl ?_
      refine Ops.u (Dtu.pickT (lk rfl) (lk rfl)) rfl ?_
      refine Ops.u (Dtu.mv (lk rfl)) rfl ?_
      refine Ops.decP 134 rfl (fun _ => ?_) (fun hn => absurd (by first | omega | assumption | decide) hn)
      refine Ops.gu rfl rfl rfl (Dtu.mv (lk rfl)) rfl ?_
      refine Ops.gs rfl rfl rfl (Stp.callOwn [0] rfl rfl Try.call49 (lks rfl) (fun E' le hat => cancel_s E' _ _) ?_) rfl
      rintro _ _ ⟨rfl, rfl⟩
      refine Ops.gu rfl rfl rfl (Dtu.eql (lk rfl) (lk rfl)) rfl ?_
      refine Ops.u (Dtu.pickT (lk rfl) (lk rfl)) rfl ?_
      refine Ops.u (Dtu.asg (lk rfl)) rfl ?_
      refine Ops.nil ?_
      refine Then.next ?_
      refine Body.ret ?_
      exact ⟨.inr rfl, _, pk [] rfl, congrArg Value.bool (decide_eq_true w3), rfl⟩
end Go.Proofs.Ytpmapedhigjalaa
end
section
/- For FileCancels. -/
namespace Go.Proofs.Ytpmapedhigjalaa
end Go.Proofs.Ytpmapedhigjalaa
end
section
/- 'Rows.FileCancelsSaid': longlinelaw26.FileCancels returns true, whatever bytes and map come in; they read as they did. -/
namespace Go.Proofs.Ytpmapedhigjalaa.fileCancels
open Go.Sx Go.ChangeShapes Go.WideShapes Go.ChangeAt Go.RowKit
set_option linter.unusedVariables false

theorem own : ownKnob Try.prog.godebug = none := by kernel_rfl
theorem laidOut : laidOutB Try.prog = true := by kernel_rfl
theorem pars : (Try.f8.params.toList.all fun t => Try.prog.readableRec t && decide (t < Try.prog.types.size)) = true := by kernel_rfl

set_option maxRecDepth 100000 in
theorem lifted (os : Os) (started : os.Started) (H : Type) (enc : TypeId × Value → H) :
    ReturnsInHanded {} Try.checked os 8 .any (Rows.fileCancelsSpec.pre6 enc Try.prog Try.f8 Rows.fileCancelsRow.domain false) (Rows.fileCancelsSpec.post enc Try.prog Try.f8 false true false false) := by
  refine returnsInHanded_of_change (C := Try.checked) own started (by kernel_rfl) Try.func8
    (ChangeSpec.witness6 (enc := enc) (C := Try.checked) false ⟨#[], #[.slice none 0 0, .agg #[.int .i64 0, .int .u64 0]], []⟩ 8 (by kernel_rfl) (by kernel_rfl) (by kernel_rfl) (by kernel_rfl)) ?_
  intro W base args ds gs before hval0 hW hcnd _
  have hval : ∀ (j : Nat) t v, Try.f8.params[j]? = some t → args[j]? = some v → Value.okWide Try.prog W .any base t v := hval0
  have hW' := hW
  obtain ⟨p, q, hA0, hV, rfl, hfz, hnd⟩ := hW
  have hA : DataW.TrodAll enc Try.prog W 0 (fun _ => true) true Try.f8.params.toList args.toList ds p := hA0
  rw [Try.params8] at hA hval
  obtain ⟨v0, vs0, d0, ds0, p0, q0, hargs, rfl, rfl, h0, r0⟩ := trodAll_cons hA
  obtain ⟨v1, vs1, d1, ds1, p1, q1, rfl, rfl, rfl, h1, r1⟩ := trodAll_cons r0
  obtain ⟨rfl, rfl, rfl⟩ := trodAll_nil r1
  obtain rfl : args = #[v0, v1] := by cases args; simp_all
  obtain ⟨a, ln, cp, rfl⟩ := okWide_slice Try.underlying73 (hval 0 73 v0 rfl rfl)
  obtain ⟨n0, h0'⟩ := h0
  obtain ⟨b, bs, eb, hb, hbt⟩ := trod_bytes (cs := [.slice a ln cp]) h0'
  obtain rfl : Value.slice a ln cp = b := by simpa using eb
  obtain ⟨n, y, rfl, hy⟩ := open_map (hval 1 86 v1 rfl rfl) h1
  refine (cancels26_ok (envOf W) _ bs n y hb hbt hy W St.all).mono ?_
  rintro e W' ⟨r, H', rfl, ⟨rfl, rfl⟩, s'⟩
  refine ⟨_, rfl, post_of_below (tb := 4) rfl rfl rfl Try.underlying4 laidOut (fun t ht => ?_) hW' (below_of_St s')⟩
  · have := List.all_eq_true.1 pars t ht
    rw [Bool.and_eq_true, decide_eq_true_eq] at this
    exact this

theorem over : Rows.fileCancelsRow.holds Try.pinned (OpenSpec.ofChange Rows.fileCancelsSpec) :=
  OpenClaim.holds_of_wide 8 Try.f8 rfl rfl rfl rfl rfl rfl rfl ⟨rfl, rfl, rfl, rfl, rfl⟩ rfl rfl rfl rfl rfl (by kernel_rfl) Try.func8 (by kernel_rfl)
    (of_decide_eq_true (by kernel_rfl)) (by unfold Func.isWrapper; first | (rw [if_pos (by decide +kernel)]; kernel_rfl) | (rw [if_neg (by decide +kernel)]; exact ⟨rfl, rfl⟩))
    (fun os started H enc _ => lifted os started H enc)

theorem proved : Rows.FileCancelsSaid := over
end Go.Proofs.Ytpmapedhigjalaa.fileCancels
end
