/- QNw: FilQ, FilR, FilS, OpnS, FsendsP. -/
import Derived.Test.YtpmapedhigjalaaRwa
import Derived.Test.YtpmapedhigjalaaRwb
import Derived.Test.YtpmapedhigjalaaRwc
import Derived.Test.YtpmapedhigjalaaRwd
import Derived.Test.YtpmapedhigjalaaRwe
import Derived.Test.YtpmapedhigjalaaRwf
section
/- FileCancels: the walk. -/
namespace Go.Proofs.Ytpmapedhigjalaa
set_option maxRecDepth 100000
set_option maxHeartbeats 4000000
set_option linter.unusedVariables false
set_option linter.unusedSimpArgs false
open Go.Sx

theorem Snd.st_g {z : Snd} (hg : z.gone = false) (h : ¬ z.st = 2) : z.st = 0 := by
  unfold Snd.st at h ⊢; rw [hg] at h ⊢; cases hf : z.full <;> rw [hf] at h <;> simp_all
theorem cancels26_ok (E : Env) (bv : Value) (bs : List Int) (n x : Int) (hs : Sl E [] 1 bv bs.length (bs.map (.int .u8))) (hb : Byt bs) (hx : U64 x) : Does Try.prog 8 #[bv, .agg #[.int .i64 n, .int .u64 x]] E ([]) fun r H' => r = .bool true ∧ H' = [] := by
  refine Does.pure hs.len fun hlb => ?_
  refine Does.pure (Sl.shape hs) fun ⟨a0, c0, hv0⟩ => ?_
  subst hv0
  by_cases hL : bs.length > 4096
  · refine Does.go _ _ Try.func8 rfl Try.ntmps8 rfl rfl ?_
    refine Body.seq ?_
    refine Body.region ?_
    refine Ops.s (Stp.box (lk rfl) rfl (fun b3 => ?_)) rfl
    refine Ops.u (Dtu.asg (lk rfl)) rfl ?_
    refine Ops.nil ?_
    refine Then.next ?_
    refine Body.seq ?_
    refine Body.seq ?_
    refine Body.region ?_
    refine Ops.u (Dtu.mv (lk rfl)) rfl ?_
    refine Ops.u (Dtu.lenS Try.underlying73 (Sl.up hs) (lk rfl)) rfl ?_
    refine Ops.u (Dtu.gtr (lk rfl) (lk rfl)) rfl ?_
    refine Ops.nil ?_
    refine Then.next ?_
    refine Body.condP (lk rfl) (fun _ => ?_) (fun hn => absurd (by first | omega | assumption | decide) hn)
    refine Body.seq ?_
    refine Body.region ?_
    refine Ops.s (Stp.call rfl Try.call36 (lks rfl) (fun E' le hat => alive26_ok E') ?_) rfl
    rintro _ _ ⟨rfl, rfl⟩
    refine Ops.u (Dtu.asg (lk rfl)) rfl ?_
    refine Ops.nil ?_
    refine Then.next ?_
    refine Body.ret ?_
    refine Then.ret ?_
    exact ⟨.inr rfl, _, pk [] rfl, rfl, rfl⟩
  have hi : infoR 1 ⟨#[102]⟩ bs.length = true := decide_eq_true ⟨by decide, by decide, by decide, by decide, by omega, by omega⟩
  have ok0 : (Snd.new 1 ⟨#[102]⟩ bs).Ok := ⟨by show bs.length ≤ _; omega, Nat.two_pow_pos _⟩
  have ok1 := Snd.know_ok ok0 (n := n) hx
  have hg1 : ((Snd.new 1 ⟨#[102]⟩ bs).know n x).gone = false := by unfold Snd.know; split <;> rfl
  have hst := Snd.left_st ok1 hg1
  have hn1 : ((Snd.new 1 ⟨#[102]⟩ bs).know n x).n = (bs.length + 63) / 64 := Snd.know_n _ _ _
  have hf0 : (Snd.new 1 ⟨#[102]⟩ bs).n = (bs.length + 63) / 64 := rfl
  have hfg : (Snd.new 1 ⟨#[102]⟩ bs).gone = false := rfl
  have hf : askF (bmR n x) n (Snd.new 1 ⟨#[102]⟩ bs).n false ≠ 0 → ((Snd.new 1 ⟨#[102]⟩ bs).know n x).left = (bs.length + 63) / 64 := fun h => by
    rw [show (Snd.new 1 ⟨#[102]⟩ bs).know n x = Snd.new 1 ⟨#[102]⟩ bs from if_neg h]
    show (Snd.new 1 ⟨#[102]⟩ bs).n - pc _ 0 = _
    rw [pc_zero]; rfl
  have hge : (Snd.new 1 ⟨#[102]⟩ bs).gone = false := rfl
  by_cases hl : ((Snd.new 1 ⟨#[102]⟩ bs).know n x).left = 0
  · have h2 := hst.1 hl
    have h3 : ¬ ((Snd.new 1 ⟨#[102]⟩ bs).know n x).st = 0 := by omega
    have h4 : ((Snd.new 1 ⟨#[102]⟩ bs).know n x).cancel = (Snd.new 1 ⟨#[102]⟩ bs).know n x := if_neg h3
    have h5 : (if ((Snd.new 1 ⟨#[102]⟩ bs).know n x).st = 0 then (0 : Int) else 7) = 7 := if_neg h3
    have h6 : ((Snd.new 1 ⟨#[102]⟩ bs).know n x).cancel.st = 2 := by rw [h4]; exact h2
    by_cases hf1 : askF (bmR n x) n (Snd.new 1 ⟨#[102]⟩ bs).n (Snd.new 1 ⟨#[102]⟩ bs).gone = 0
    · refine Does.go _ _ Try.func8 rfl Try.ntmps8 rfl rfl ?_
      refine Body.seq ?_
      refine Body.region ?_
      refine Ops.s (Stp.box (lk rfl) rfl (fun b3 => ?_)) rfl
      refine Ops.u (Dtu.asg (lk rfl)) rfl ?_
      refine Ops.nil ?_
      refine Then.next ?_
      refine Body.seq ?_
      refine Body.seq ?_
      refine Body.region ?_
      refine Ops.u (Dtu.mv (lk rfl)) rfl ?_
      refine Ops.u (Dtu.lenS Try.underlying73 (Sl.up hs) (lk rfl)) rfl ?_
      refine Ops.u (Dtu.gtr (lk rfl) (lk rfl)) rfl ?_
      refine Ops.nil ?_
      refine Then.next ?_
      refine Body.condP (lk rfl) (fun hy => absurd hy (by first | omega | assumption | decide)) (fun _ => ?_)
      refine Body.skip ?_
      refine Then.next ?_
      refine Body.seq ?_
      refine Body.region ?_
      refine Ops.u (Dtu.mv (lk rfl)) rfl ?_
      refine Ops.s (Stp.call rfl Try.call37 (lks rfl) (fun E' le hat => new_s E' _ _ _ bs (Sl.mono hs le) hb (by assumption)) ?_) rfl
      rintro _ _ ⟨nb23, rfl, rfl⟩
      refine Ops.u (Dtu.mv (lk rfl)) rfl ?_
      refine Ops.u (Dtu.ext (lk rfl) rfl) rfl ?_
      refine Ops.u (Dtu.ext (lk rfl) rfl) rfl ?_
      refine Ops.u (Dtu.asg (lk rfl)) rfl ?_
      refine Ops.u (Dtu.asg (lk rfl)) rfl ?_
      refine Ops.nil ?_
      refine Then.next ?_
      refine Body.seq ?_
      refine Body.seq ?_
      refine Body.region ?_
      refine Ops.u (Dtu.mv (lk rfl)) rfl ?_
      refine Ops.u (Dtu.neq (lk rfl) (lk rfl)) rfl ?_
      refine Ops.u (Dtu.mv (lk rfl)) rfl ?_
      refine Ops.decP 28 rfl (fun hy => absurd hy (by first | omega | assumption | decide)) (fun _ => ?_)
      refine Ops.gu rfl rfl rfl (Dtu.mv (lk rfl)) rfl ?_
      refine Ops.gu rfl rfl rfl (Dtu.eqNil Try.underlying75 (lk rfl) (lk rfl)) rfl ?_
      refine Ops.u (Dtu.pickF (lk rfl) (lk rfl)) rfl ?_
      refine Ops.nil ?_
      refine Then.next ?_
      refine Body.condF (lk rfl) ?_
      refine Body.skip ?_
      refine Then.next ?_
      refine Body.seq ?_
      refine Body.region ?_
      refine Ops.u (Dtu.mv (lk rfl)) rfl ?_
      refine Ops.d (Det.lda Try.isAgg86 Try.sizeOf86 (lk rfl) (Rds.ow (m := 2) 1 rfl rfl) rfl) rfl ?_
      refine Ops.s (Stp.callOwn [0] rfl rfl Try.call46 (lks rfl) (fun E' le hat => know_s E' _ _ _ _ (by first | with_reducible assumption | omega | assumption)) ?_) rfl
      rintro _ _ ⟨rfl, rfl⟩
      refine Ops.u (Dtu.asg (lk rfl)) rfl ?_
      refine Ops.nil ?_
      refine Then.next ?_
      refine Body.seq ?_
      refine Body.region ?_
      refine Ops.u (Dtu.mv (lk rfl)) rfl ?_
      refine Ops.s (Stp.callOwn [0] rfl rfl Try.call51 (lks rfl) (fun E' le hat => left_s E' _ _) ?_) rfl
      rintro _ _ ⟨rfl, rfl⟩
      refine Ops.u (Dtu.eql (lk rfl) (lk rfl)) rfl ?_
      refine Ops.u (Dtu.asg (lk rfl)) rfl ?_
      refine Ops.nil ?_
      refine Then.next ?_
      refine Body.seq ?_
      refine Body.region ?_
      refine Ops.u (Dtu.mv (lk rfl)) rfl ?_
      refine Ops.s (Stp.callOwn [0] rfl rfl Try.call49 (lks rfl) (fun E' le hat => cancel_s E' _ _) ?_) rfl
      rintro _ _ ⟨rfl, rfl⟩
      refine Ops.u (Dtu.asg (lk rfl)) rfl ?_
      refine Ops.nil ?_
      refine Then.next ?_
      refine Body.seq ?_
      refine Body.seq ?_
      refine Body.region ?_
      refine Ops.u (Dtu.mv (lk rfl)) rfl ?_
      refine Ops.nil ?_
      refine Then.next ?_
      refine Body.condP (lk rfl) (fun _ => ?_) (fun hn => absurd (by first | omega | assumption | decide) hn)
      refine Body.seq ?_
      refine Body.region ?_
      refine Ops.s (Stp.call rfl Try.call36 (lks rfl) (fun E' le hat => alive26_ok E') ?_) rfl
      rintro _ _ ⟨rfl, rfl⟩
      refine Ops.u (Dtu.mv (lk rfl)) rfl ?_
      refine Ops.gu rfl rfl rfl (Dtu.mv (lk rfl)) rfl ?_
      refine Ops.gu rfl rfl rfl (Dtu.eql (lk rfl) (lk rfl)) rfl ?_
      refine Ops.u (Dtu.pickT (lk rfl) (lk rfl)) rfl ?_
      refine Ops.u (Dtu.mv (lk rfl)) rfl ?_
      refine Ops.decP 46 rfl (fun _ => ?_) (fun hn => absurd (by first | omega | assumption | decide) hn)
      refine Ops.gu rfl rfl rfl (Dtu.mv (lk rfl)) rfl ?_
      refine Ops.gs rfl rfl rfl (Stp.callOwn [0] rfl rfl Try.call53 (lks rfl) (fun E' le hat => state_s E' _ _) ?_) rfl
      rintro _ _ ⟨rfl, rfl⟩
      refine Ops.gu rfl rfl rfl (Dtu.eql (lk rfl) (lk rfl)) rfl ?_
      refine Ops.u (Dtu.pickT (lk rfl) (lk rfl)) rfl ?_
      refine Ops.u (Dtu.mv (lk rfl)) rfl ?_
      refine Ops.decP 51 rfl (fun _ => ?_) (fun hn => absurd (by first | omega | assumption | decide) hn)
      refine Ops.gu rfl rfl rfl (Dtu.mv (lk rfl)) rfl ?_
      refine Ops.gu rfl rfl rfl (Dtu.eql (lk rfl) (lk rfl)) rfl ?_
      refine Ops.gu rfl rfl rfl (Dtu.mv (lk rfl)) rfl ?_
      refine Ops.decP 54 rfl (fun _ => ?_) (fun hn => absurd (by first | omega | assumption | decide) hn)
      refine Ops.gn rfl rfl rfl rfl rfl ?_
      refine Ops.gn rfl rfl rfl rfl rfl ?_
      refine Ops.gn rfl rfl rfl rfl rfl ?_
      refine Ops.gu rfl rfl rfl (Dtu.pickT (lk rfl) (lk rfl)) rfl ?_
      refine Ops.u (Dtu.pickT (lk rfl) (lk rfl)) rfl ?_
      refine Ops.u (Dtu.asg (lk rfl)) rfl ?_
      refine Ops.nil ?_
      refine Then.next ?_
      refine Body.ret ?_
      refine Then.ret ?_
      exact ⟨.inr rfl, _, pk [] rfl, rfl, rfl⟩
    · have hb0 : bs.length = 0 := by have := hf hf1; omega
      refine Does.go _ _ Try.func8 rfl Try.ntmps8 rfl rfl ?_
      refine Body.seq ?_
      refine Body.region ?_
      refine Ops.s (Stp.box (lk rfl) rfl (fun b3 => ?_)) rfl
      refine Ops.u (Dtu.asg (lk rfl)) rfl ?_
      refine Ops.nil ?_
      refine Then.next ?_
      refine Body.seq ?_
      refine Body.seq ?_
      refine Body.region ?_
      refine Ops.u (Dtu.mv (lk rfl)) rfl ?_
      refine Ops.u (Dtu.lenS Try.underlying73 (Sl.up hs) (lk rfl)) rfl ?_
      refine Ops.u (Dtu.gtr (lk rfl) (lk rfl)) rfl ?_
      refine Ops.nil ?_
      refine Then.next ?_
      refine Body.condP (lk rfl) (fun hy => absurd hy (by first | omega | assumption | decide)) (fun _ => ?_)
      refine Body.skip ?_
      refine Then.next ?_
      refine Body.seq ?_
      refine Body.region ?_
      refine Ops.u (Dtu.mv (lk rfl)) rfl ?_
      refine Ops.s (Stp.call rfl Try.call37 (lks rfl) (fun E' le hat => new_s E' _ _ _ bs (Sl.mono hs le) hb (by assumption)) ?_) rfl
      rintro _ _ ⟨nb23, rfl, rfl⟩
      refine Ops.u (Dtu.mv (lk rfl)) rfl ?_
      refine Ops.u (Dtu.ext (lk rfl) rfl) rfl ?_
      refine Ops.u (Dtu.ext (lk rfl) rfl) rfl ?_
      refine Ops.u (Dtu.asg (lk rfl)) rfl ?_
      refine Ops.u (Dtu.asg (lk rfl)) rfl ?_
      refine Ops.nil ?_
      refine Then.next ?_
      refine Body.seq ?_
      refine Body.seq ?_
      refine Body.region ?_
      refine Ops.u (Dtu.mv (lk rfl)) rfl ?_
      refine Ops.u (Dtu.neq (lk rfl) (lk rfl)) rfl ?_
      refine Ops.u (Dtu.mv (lk rfl)) rfl ?_
      refine Ops.decP 28 rfl (fun hy => absurd hy (by first | omega | assumption | decide)) (fun _ => ?_)
      refine Ops.gu rfl rfl rfl (Dtu.mv (lk rfl)) rfl ?_
      refine Ops.gu rfl rfl rfl (Dtu.eqNil Try.underlying75 (lk rfl) (lk rfl)) rfl ?_
      refine Ops.u (Dtu.pickF (lk rfl) (lk rfl)) rfl ?_
      refine Ops.nil ?_
      refine Then.next ?_
      refine Body.condF (lk rfl) ?_
      refine Body.skip ?_
      refine Then.next ?_
      refine Body.seq ?_
      refine Body.region ?_
      refine Ops.u (Dtu.mv (lk rfl)) rfl ?_
      refine Ops.d (Det.lda Try.isAgg86 Try.sizeOf86 (lk rfl) (Rds.ow (m := 2) 1 rfl rfl) rfl) rfl ?_
      refine Ops.s (Stp.callOwn [0] rfl rfl Try.call46 (lks rfl) (fun E' le hat => know_s E' _ _ _ _ (by first | with_reducible assumption | omega | assumption)) ?_) rfl
      rintro _ _ ⟨rfl, rfl⟩
      refine Ops.u (Dtu.asg (lk rfl)) rfl ?_
      refine Ops.nil ?_
      refine Then.next ?_
      refine Body.seq ?_
      refine Body.region ?_
      refine Ops.u (Dtu.mv (lk rfl)) rfl ?_
      refine Ops.s (Stp.callOwn [0] rfl rfl Try.call51 (lks rfl) (fun E' le hat => left_s E' _ _) ?_) rfl
      rintro _ _ ⟨rfl, rfl⟩
      refine Ops.u (Dtu.eql (lk rfl) (lk rfl)) rfl ?_
      refine Ops.u (Dtu.asg (lk rfl)) rfl ?_
      refine Ops.nil ?_
      refine Then.next ?_
      refine Body.seq ?_
      refine Body.region ?_
      refine Ops.u (Dtu.mv (lk rfl)) rfl ?_
      refine Ops.s (Stp.callOwn [0] rfl rfl Try.call49 (lks rfl) (fun E' le hat => cancel_s E' _ _) ?_) rfl
      rintro _ _ ⟨rfl, rfl⟩
      refine Ops.u (Dtu.asg (lk rfl)) rfl ?_
      refine Ops.nil ?_
      refine Then.next ?_
      refine Body.seq ?_
      refine Body.seq ?_
      refine Body.region ?_
      refine Ops.u (Dtu.mv (lk rfl)) rfl ?_
      refine Ops.nil ?_
      refine Then.next ?_
      refine Body.condP (lk rfl) (fun _ => ?_) (fun hn => absurd (by first | omega | assumption | decide) hn)
      refine Body.seq ?_
      refine Body.region ?_
      refine Ops.s (Stp.call rfl Try.call36 (lks rfl) (fun E' le hat => alive26_ok E') ?_) rfl
      rintro _ _ ⟨rfl, rfl⟩
      refine Ops.u (Dtu.mv (lk rfl)) rfl ?_
      refine Ops.gu rfl rfl rfl (Dtu.mv (lk rfl)) rfl ?_
      refine Ops.gu rfl rfl rfl (Dtu.eql (lk rfl) (lk rfl)) rfl ?_
      refine Ops.u (Dtu.pickT (lk rfl) (lk rfl)) rfl ?_
      refine Ops.u (Dtu.mv (lk rfl)) rfl ?_
      refine Ops.decP 46 rfl (fun _ => ?_) (fun hn => absurd (by first | omega | assumption | decide) hn)
      refine Ops.gu rfl rfl rfl (Dtu.mv (lk rfl)) rfl ?_
      refine Ops.gs rfl rfl rfl (Stp.callOwn [0] rfl rfl Try.call53 (lks rfl) (fun E' le hat => state_s E' _ _) ?_) rfl
      rintro _ _ ⟨rfl, rfl⟩
      refine Ops.gu rfl rfl rfl (Dtu.eql (lk rfl) (lk rfl)) rfl ?_
      refine Ops.u (Dtu.pickT (lk rfl) (lk rfl)) rfl ?_
      refine Ops.u (Dtu.mv (lk rfl)) rfl ?_
      refine Ops.decP 51 rfl (fun _ => ?_) (fun hn => absurd (by first | omega | assumption | decide) hn)
      refine Ops.gu rfl rfl rfl (Dtu.mv (lk rfl)) rfl ?_
      refine Ops.gu rfl rfl rfl (Dtu.eql (lk rfl) (lk rfl)) rfl ?_
      refine Ops.gu rfl rfl rfl (Dtu.mv (lk rfl)) rfl ?_
      refine Ops.decP 54 rfl (fun hy => absurd hy (by first | omega | assumption | decide)) (fun _ => ?_)
      refine Ops.gu rfl rfl rfl (Dtu.mv (lk rfl)) rfl ?_
      refine Ops.gu rfl rfl rfl (Dtu.lenS Try.underlying73 (Sl.up hs) (lk rfl)) rfl ?_
      refine Ops.gu rfl rfl rfl (Dtu.eql (lk rfl) (lk rfl)) rfl ?_
      refine Ops.gu rfl rfl rfl (Dtu.pickF (lk rfl) (lk rfl)) rfl ?_
      refine Ops.u (Dtu.pickT (lk rfl) (lk rfl)) rfl ?_
      refine Ops.u (Dtu.asg (lk rfl)) rfl ?_
      refine Ops.nil ?_
      refine Then.next ?_
      refine Body.ret ?_
      refine Then.ret ?_
      exact ⟨.inr rfl, _, pk [] rfl, bEq (by simp [hb0]), rfl⟩
  · have h3 : ((Snd.new 1 ⟨#[102]⟩ bs).know n x).st = 0 := Snd.st_g hg1 fun h => hl (hst.2 h)
    have h4 : ((Snd.new 1 ⟨#[102]⟩ bs).know n x).cancel = ⟨_, _, _, _, _, _, true⟩ := if_pos h3
    have k1 : ((Snd.new 1 ⟨#[102]⟩ bs).know n x).cancel.st = 1 := by rw [h4]; rfl
    have k2 : ((Snd.new 1 ⟨#[102]⟩ bs).know n x).cancel.left = 0 := by rw [h4]; rfl
    have k3 : ((Snd.new 1 ⟨#[102]⟩ bs).know n x).cancel.gone = true := by rw [h4]
    have k4 : ((Snd.new 1 ⟨#[102]⟩ bs).know n x).cancel.n = (Snd.new 1 ⟨#[102]⟩ bs).n := by rw [h4, hf0]; exact hn1
    have k5 : ((Snd.new 1 ⟨#[102]⟩ bs).know n x).cancel.Ok := Snd.cancel_ok ok1
    clear h4 hst hg1 hf hn1 ok0 ok1
    refine Does.go _ _ Try.func8 rfl Try.ntmps8 rfl rfl ?_
    refine Body.seq ?_
    refine Body.region ?_
    refine Ops.s (Stp.box (lk rfl) rfl (fun b3 => ?_)) rfl
    refine Ops.u (Dtu.asg (lk rfl)) rfl ?_
    refine Ops.nil ?_
    refine Then.next ?_
    refine Body.seq ?_
    refine Body.seq ?_
    refine Body.region ?_
    refine Ops.u (Dtu.mv (lk rfl)) rfl ?_
    refine Ops.u (Dtu.lenS Try.underlying73 (Sl.up hs) (lk rfl)) rfl ?_
    refine Ops.u (Dtu.gtr (lk rfl) (lk rfl)) rfl ?_
    refine Ops.nil ?_
    refine Then.next ?_
    refine Body.condP (lk rfl) (fun hy => absurd hy (by first | omega | assumption | decide)) (fun _ => ?_)
    refine Body.skip ?_
    refine Then.next ?_
    refine Body.seq ?_
    refine Body.region ?_
    refine Ops.u (Dtu.mv (lk rfl)) rfl ?_
    refine Ops.s (Stp.call rfl Try.call37 (lks rfl) (fun E' le hat => new_s E' _ _ _ bs (Sl.mono hs le) hb (by assumption)) ?_) rfl
    rintro _ _ ⟨nb23, rfl, rfl⟩
    refine Ops.u (Dtu.mv (lk rfl)) rfl ?_
    refine Ops.u (Dtu.ext (lk rfl) rfl) rfl ?_
    refine Ops.u (Dtu.ext (lk rfl) rfl) rfl ?_
    refine Ops.u (Dtu.asg (lk rfl)) rfl ?_
    refine Ops.u (Dtu.asg (lk rfl)) rfl ?_
    refine Ops.nil ?_
    refine Then.next ?_
    refine Body.seq ?_
    refine Body.seq ?_
    refine Body.region ?_
    refine Ops.u (Dtu.mv (lk rfl)) rfl ?_
    refine Ops.u (Dtu.neq (lk rfl) (lk rfl)) rfl ?_
    refine Ops.u (Dtu.mv (lk rfl)) rfl ?_
    refine Ops.decP 28 rfl (fun hy => absurd hy (by first | omega | assumption | decide)) (fun _ => ?_)
    refine Ops.gu rfl rfl rfl (Dtu.mv (lk rfl)) rfl ?_
    refine Ops.gu rfl rfl rfl (Dtu.eqNil Try.underlying75 (lk rfl) (lk rfl)) rfl ?_
    refine Ops.u (Dtu.pickF (lk rfl) (lk rfl)) rfl ?_
    refine Ops.nil ?_
    refine Then.next ?_
    refine Body.condF (lk rfl) ?_
    refine Body.skip ?_
    refine Then.next ?_
    refine Body.seq ?_
    refine Body.region ?_
    refine Ops.u (Dtu.mv (lk rfl)) rfl ?_
    refine Ops.d (Det.lda Try.isAgg86 Try.sizeOf86 (lk rfl) (Rds.ow (m := 2) 1 rfl rfl) rfl) rfl ?_
    refine Ops.s (Stp.callOwn [0] rfl rfl Try.call46 (lks rfl) (fun E' le hat => know_s E' _ _ _ _ (by first | with_reducible assumption | omega | assumption)) ?_) rfl
    rintro _ _ ⟨rfl, rfl⟩
    refine Ops.u (Dtu.asg (lk rfl)) rfl ?_
    refine Ops.nil ?_
    refine Then.next ?_
    refine Body.seq ?_
    refine Body.region ?_
    refine Ops.u (Dtu.mv (lk rfl)) rfl ?_
    refine Ops.s (Stp.callOwn [0] rfl rfl Try.call51 (lks rfl) (fun E' le hat => left_s E' _ _) ?_) rfl
    rintro _ _ ⟨rfl, rfl⟩
    refine Ops.u (Dtu.eql (lk rfl) (lk rfl)) rfl ?_
    refine Ops.u (Dtu.asg (lk rfl)) rfl ?_
    refine Ops.nil ?_
    refine Then.next ?_
    refine Body.seq ?_
    refine Body.region ?_
    refine Ops.u (Dtu.mv (lk rfl)) rfl ?_
    refine Ops.s (Stp.callOwn [0] rfl rfl Try.call49 (lks rfl) (fun E' le hat => cancel_s E' _ _) ?_) rfl
    rintro _ _ ⟨rfl, rfl⟩
    refine Ops.u (Dtu.asg (lk rfl)) rfl ?_
    refine Ops.nil ?_
    refine Then.next ?_
    refine Body.seq ?_
    refine Body.seq ?_
    refine Body.region ?_
    refine Ops.u (Dtu.mv (lk rfl)) rfl ?_
    refine Ops.nil ?_
    refine Then.next ?_
    refine Body.condP (lk rfl) (fun hy => absurd hy (by first | omega | assumption | decide)) (fun _ => ?_)
    refine Body.skip ?_
    refine Then.next ?_
    generalize ((Snd.new 1 ⟨#[102]⟩ bs).know n x).cancel = z at *
    have hA : askF (bmR n x) n z.n z.gone ≠ 0 := by rw [k3]; unfold askF; split <;> simp
    have kk : z.know n x = z := if_neg hA
    have ka : z.anew n x = z := if_neg hA
    have k0 : ¬ z.st = 0 := by omega
    refine Body.seq ?_
    refine Body.region ?_
    refine Ops.u (Dtu.mv (lk rfl)) rfl ?_
    refine Ops.s (Stp.callOwn [0] rfl rfl Try.call45 (lks rfl) (fun E' le hat => next_sn E' _ _ (by first | with_reducible assumption | omega | assumption)) ?_) rfl
    rintro _ _ ⟨rfl, rfl⟩
    refine Ops.u (Dtu.mv (lk rfl)) rfl ?_
    refine Ops.u (Dtu.ext (lk rfl) rfl) rfl ?_
    refine Ops.u (Dtu.ext (lk rfl) rfl) rfl ?_
    refine Ops.u (Dtu.ext (lk rfl) rfl) rfl ?_
    refine Ops.u (Dtu.asg (lk rfl)) rfl ?_
    refine Ops.u (Dtu.asg (lk rfl)) rfl ?_
    refine Ops.u (Dtu.asg (lk rfl)) rfl ?_
    refine Ops.nil ?_
    refine Then.next ?_
    refine Body.seq ?_
    refine Body.region ?_
    refine Ops.u (Dtu.mv (lk rfl)) rfl ?_
    refine Ops.s (Stp.callOwn [0] rfl rfl Try.call40 (lks rfl) (fun E' le hat => peek_sn E' _ _ (by first | with_reducible assumption | omega | assumption)) ?_) rfl
    rintro _ _ ⟨rfl, rfl⟩
    refine Ops.u (Dtu.mv (lk rfl)) rfl ?_
    refine Ops.u (Dtu.ext (lk rfl) rfl) rfl ?_
    refine Ops.u (Dtu.ext (lk rfl) rfl) rfl ?_
    refine Ops.u (Dtu.asg (lk rfl)) rfl ?_
    refine Ops.u (Dtu.asg (lk rfl)) rfl ?_
    refine Ops.nil ?_
    refine Then.next ?_
    refine Body.seq ?_
    refine Body.region ?_
    refine Ops.u (Dtu.mv (lk rfl)) rfl ?_
    refine Ops.d (Det.lda Try.isAgg86 Try.sizeOf86 (lk rfl) (Rds.ow (m := 2) 1 rfl rfl) rfl) rfl ?_
    refine Ops.s (Stp.callOwn [0] rfl rfl Try.call46 (lks rfl) (fun E' le hat => know_s E' _ _ _ _ (by first | with_reducible assumption | omega | assumption)) ?_) rfl
    rintro _ _ ⟨rfl, rfl⟩
    refine Ops.u (Dtu.asg (lk rfl)) rfl ?_
    refine Ops.nil ?_
    refine Then.next ?_
    rw [kk]
    refine Body.seq ?_
    refine Body.region ?_
    refine Ops.u (Dtu.mv (lk rfl)) rfl ?_
    refine Ops.d (Det.lda Try.isAgg86 Try.sizeOf86 (lk rfl) (Rds.ow (m := 2) 1 rfl rfl) rfl) rfl ?_
    refine Ops.s (Stp.callOwn [0] rfl rfl Try.call48 (lks rfl) (fun E' le hat => anew_s E' _ _ _ _ (by first | with_reducible assumption | omega | assumption)) ?_) rfl
    rintro _ _ ⟨rfl, rfl⟩
    refine Ops.u (Dtu.asg (lk rfl)) rfl ?_
    refine Ops.nil ?_
    refine Then.next ?_
    rw [ka]
    by_cases hR : bmR n x = true ∧ n = (Snd.new 1 ⟨#[102]⟩ bs).n
    · have w1 : askF (bmR n x) n (Snd.new 1 ⟨#[102]⟩ bs).n (Snd.new 1 ⟨#[102]⟩ bs).gone = 0 := by rw [hge, askF, if_pos hR]; rfl
      have w2 : askF (bmR n x) n z.n z.gone = 41 := by rw [k3, k4, askF, if_pos hR]; rfl
      have w3 : (if z.st = 0 then (0 : Int) else 7) = 7 := if_neg k0
      refine Body.seq ?_
      refine Body.region ?_
      refine Ops.s (Stp.call rfl Try.call36 (lks rfl) (fun E' le hat => alive26_ok E') ?_) rfl
      rintro _ _ ⟨rfl, rfl⟩
      refine Ops.u (Dtu.mv (lk rfl)) rfl ?_
      refine Ops.gu rfl rfl rfl (Dtu.mv (lk rfl)) rfl ?_
      refine Ops.gu rfl rfl rfl (Dtu.eql (lk rfl) (lk rfl)) rfl ?_
      refine Ops.u (Dtu.pickT (lk rfl) (lk rfl)) rfl ?_
      refine Ops.u (Dtu.mv (lk rfl)) rfl ?_
      refine Ops.decP 82 rfl (fun _ => ?_) (fun hn => absurd (by first | omega | assumption | decide) hn)
      refine Ops.gu rfl rfl rfl (Dtu.mv (lk rfl)) rfl ?_
      refine Ops.gs rfl rfl rfl (Stp.callOwn [0] rfl rfl Try.call53 (lks rfl) (fun E' le hat => state_s E' _ _) ?_) rfl
      rintro _ _ ⟨rfl, rfl⟩
      refine Ops.gu rfl rfl rfl (Dtu.eql (lk rfl) (lk rfl)) rfl ?_
      refine Ops.u (Dtu.pickT (lk rfl) (lk rfl)) rfl ?_
      refine Ops.u (Dtu.mv (lk rfl)) rfl ?_
      refine Ops.decP 87 rfl (fun _ => ?_) (fun hn => absurd (by first | omega | assumption | decide) hn)
      refine Ops.gu rfl rfl rfl (Dtu.mv (lk rfl)) rfl ?_
      refine Ops.gu rfl rfl rfl (Dtu.not (lk rfl)) rfl ?_
      refine Ops.u (Dtu.pickT (lk rfl) (lk rfl)) rfl ?_
      refine Ops.u (Dtu.mv (lk rfl)) rfl ?_
      refine Ops.gu rfl rfl rfl (Dtu.mv (lk rfl)) rfl ?_
      refine Ops.gu rfl rfl rfl (Dtu.not (lk rfl)) rfl ?_
      refine Ops.u (Dtu.pickT (lk rfl) (lk rfl)) rfl ?_
      refine Ops.u (Dtu.mv (lk rfl)) rfl ?_
      refine Ops.gu rfl rfl rfl (Dtu.mv (lk rfl)) rfl ?_
      refine Ops.gu rfl rfl rfl (Dtu.eql (lk rfl) (lk rfl)) rfl ?_
      refine Ops.u (Dtu.pickT (lk rfl) (lk rfl)) rfl ?_
      refine Ops.u (Dtu.mv (lk rfl)) rfl ?_
      refine Ops.decP 99 rfl (fun _ => ?_) (fun hn => absurd (by first | omega | assumption | decide) hn)
      refine Ops.gu rfl rfl rfl (Dtu.mv (lk rfl)) rfl ?_
      refine Ops.gs rfl rfl rfl (Stp.callOwn [0] rfl rfl Try.call57 (lks rfl) (fun E' le hat => costs_sn E' _ _ _ (by first | with_reducible assumption | omega | assumption)) ?_) rfl
      rintro _ _ ⟨rfl, rfl⟩
      refine Ops.gu rfl rfl rfl (Dtu.len Try.underlying107 (lk rfl)) rfl ?_
      refine Ops.gu rfl rfl rfl (Dtu.eql (lk rfl) (lk rfl)) rfl ?_
      refine Ops.u (Dtu.pickT (lk rfl) (lk rfl)) rfl ?_
      refine Ops.u (Dtu.mv (lk rfl)) rfl ?_
      refine Ops.decP 105 rfl (fun _ => ?_) (fun hn => absurd (by first | omega | assumption | decide) hn)
      refine Ops.gu rfl rfl rfl (Dtu.mv (lk rfl)) rfl ?_
      refine Ops.gs rfl rfl rfl (Stp.callOwn [0] rfl rfl Try.call51 (lks rfl) (fun E' le hat => left_s E' _ _) ?_) rfl
      rintro _ _ ⟨rfl, rfl⟩
      refine Ops.gu rfl rfl rfl (Dtu.eql (lk rfl) (lk rfl)) rfl ?_
      refine Ops.u (Dtu.pickT (lk rfl) (lk rfl)) rfl ?_
      refine Ops.u (Dtu.mv (lk rfl)) rfl ?_
      refine Ops.decP 110 rfl (fun _ => ?_) (fun hn => absurd (by first | omega | assumption | decide) hn)
      refine Ops.gu rfl rfl rfl (Dtu.mv (lk rfl)) rfl ?_
      refine Ops.gu rfl rfl rfl (Dtu.eql (lk rfl) (lk rfl)) rfl ?_
      refine Ops.gu rfl rfl rfl (Dtu.mv (lk rfl)) rfl ?_
      refine Ops.decP 113 rfl (fun _ => ?_) (fun hn => absurd (by first | omega | assumption | decide) hn)
      refine Ops.gu rfl rfl rfl (Dtu.mv (lk rfl)) rfl ?_
      refine Ops.gu rfl rfl rfl (Dtu.eql (lk rfl) (lk rfl)) rfl ?_
      refine Ops.gu rfl rfl rfl (Dtu.pickT (lk rfl) (lk rfl)) rfl ?_
      refine Ops.gu rfl rfl rfl (Dtu.mv (lk rfl)) rfl ?_
      refine Ops.decP 117 rfl (fun _ => ?_) (fun hn => absurd (by first | omega | assumption | decide) hn)
      refine Ops.gu rfl rfl rfl (Dtu.mv (lk rfl)) rfl ?_
      refine Ops.gu rfl rfl rfl (Dtu.eql (lk rfl) (lk rfl)) rfl ?_
      refine Ops.gu rfl rfl rfl (Dtu.pickT (lk rfl) (lk rfl)) rfl ?_
      refine Ops.gu rfl rfl rfl (Dtu.mv (lk rfl)) rfl ?_
      refine Ops.decP 121 rfl (fun _ => ?_) (fun hn => absurd (by first | omega | assumption | decide) hn)
      refine Ops.gn rfl rfl rfl rfl rfl ?_
      refine Ops.gn rfl rfl rfl rfl rfl ?_
      refine Ops.gn rfl rfl rfl rfl rfl ?_
      refine Ops.gn rfl rfl rfl rfl rfl ?_
      refine Ops.gn rfl rfl rfl rfl rfl ?_
      refine Ops.gn rfl rfl rfl rfl rfl ?_
      refine Ops.gn rfl rfl rfl rfl rfl ?_
      refine Ops.gn rfl rfl rfl rfl rfl ?_
      refine Ops.gn rfl rfl rfl rfl rfl ?_
      refine Ops.gn rfl rfl rfl rfl rfl ?_
      refine Ops.gu rfl rfl rfl (Dtu.pickT (lk rfl) (lk rfl)) rfl ?_
      refine Ops.u (Dtu.pickT (lk rfl) (lk rfl)) rfl ?_
      refine Ops.u (Dtu.mv (lk rfl)) rfl ?_
      refine Ops.gu rfl rfl rfl (Dtu.mv (lk rfl)) rfl ?_
      refine Ops.gs rfl rfl rfl (Stp.callOwn [0] rfl rfl Try.call49 (lks rfl) (fun E' le hat => cancel_s E' _ _) ?_) rfl
      rintro _ _ ⟨rfl, rfl⟩
      refine Ops.gu rfl rfl rfl (Dtu.eql (lk rfl) (lk rfl)) rfl ?_
      refine Ops.u (Dtu.pickT (lk rfl) (lk rfl)) rfl ?_
      refine Ops.u (Dtu.asg (lk rfl)) rfl ?_
      refine Ops.nil ?_
      refine Then.next ?_
      refine Body.ret ?_
      exact ⟨.inr rfl, _, pk [] rfl, congrArg Value.bool (decide_eq_true w3), rfl⟩
    · have w1 : askF (bmR n x) n (Snd.new 1 ⟨#[102]⟩ bs).n (Snd.new 1 ⟨#[102]⟩ bs).gone = 1 := by rw [askF, if_neg hR]
      have w2 : askF (bmR n x) n z.n z.gone = 1 := by rw [k4, askF, if_neg hR]
      have w3 : (if z.st = 0 then (0 : Int) else 7) = 7 := if_neg k0
      refine Body.seq ?_
      refine Body.region ?_
      refine Ops.s (Stp.call rfl Try.call36 (lks rfl) (fun E' le hat => alive26_ok E') ?_) rfl
      rintro _ _ ⟨rfl, rfl⟩
      refine Ops.u (Dtu.mv (lk rfl)) rfl ?_
      refine Ops.gu rfl rfl rfl (Dtu.mv (lk rfl)) rfl ?_
      refine Ops.gu rfl rfl rfl (Dtu.eql (lk rfl) (lk rfl)) rfl ?_
      refine Ops.u (Dtu.pickT (lk rfl) (lk rfl)) rfl ?_
      refine Ops.u (Dtu.mv (lk rfl)) rfl ?_
      refine Ops.decP 82 rfl (fun _ => ?_) (fun hn => absurd (by first | omega | assumption | decide) hn)
      refine Ops.gu rfl rfl rfl (Dtu.mv (lk rfl)) rfl ?_
      refine Ops.gs rfl rfl rfl (Stp.callOwn [0] rfl rfl Try.call53 (lks rfl) (fun E' le hat => state_s E' _ _) ?_) rfl
      rintro _ _ ⟨rfl, rfl⟩
      refine Ops.gu rfl rfl rfl (Dtu.eql (lk rfl) (lk rfl)) rfl ?_
      refine Ops.u (Dtu.pickT (lk rfl) (lk rfl)) rfl ?_
      refine Ops.u (Dtu.mv (lk rfl)) rfl ?_
      refine Ops.decP 87 rfl (fun _ => ?_) (fun hn => absurd (by first | omega | assumption | decide) hn)
      refine Ops.gu rfl rfl rfl (Dtu.mv (lk rfl)) rfl ?_
      refine Ops.gu rfl rfl rfl (Dtu.not (lk rfl)) rfl ?_
      refine Ops.u (Dtu.pickT (lk rfl) (lk rfl)) rfl ?_
      refine Ops.u (Dtu.mv (lk rfl)) rfl ?_
      refine Ops.gu rfl rfl rfl (Dtu.mv (lk rfl)) rfl ?_
      refine Ops.gu rfl rfl rfl (Dtu.not (lk rfl)) rfl ?_
      refine Ops.u (Dtu.pickT (lk rfl) (lk rfl)) rfl ?_
      refine Ops.u (Dtu.mv (lk rfl)) rfl ?_
      refine Ops.gu rfl rfl rfl (Dtu.mv (lk rfl)) rfl ?_
      refine Ops.gu rfl rfl rfl (Dtu.eql (lk rfl) (lk rfl)) rfl ?_
      refine Ops.u (Dtu.pickT (lk rfl) (lk rfl)) rfl ?_
      refine Ops.u (Dtu.mv (lk rfl)) rfl ?_
      refine Ops.decP 99 rfl (fun _ => ?_) (fun hn => absurd (by first | omega | assumption | decide) hn)
      refine Ops.gu rfl rfl rfl (Dtu.mv (lk rfl)) rfl ?_
      refine Ops.gs rfl rfl rfl (Stp.callOwn [0] rfl rfl Try.call57 (lks rfl) (fun E' le hat => costs_sn E' _ _ _ (by first | with_reducible assumption | omega | assumption)) ?_) rfl
      rintro _ _ ⟨rfl, rfl⟩
      refine Ops.gu rfl rfl rfl (Dtu.len Try.underlying107 (lk rfl)) rfl ?_
      refine Ops.gu rfl rfl rfl (Dtu.eql (lk rfl) (lk rfl)) rfl ?_
      refine Ops.u (Dtu.pickT (lk rfl) (lk rfl)) rfl ?_
      refine Ops.u (Dtu.mv (lk rfl)) rfl ?_
      refine Ops.decP 105 rfl (fun _ => ?_) (fun hn => absurd (by first | omega | assumption | decide) hn)
      refine Ops.gu rfl rfl rfl (Dtu.mv (lk rfl)) rfl ?_
      refine Ops.gs rfl rfl rfl (Stp.callOwn [0] rfl rfl Try.call51 (lks rfl) (fun E' le hat => left_s E' _ _) ?_) rfl
      rintro _ _ ⟨rfl, rfl⟩
      refine Ops.gu rfl rfl rfl (Dtu.eql (lk rfl) (lk rfl)) rfl ?_
      refine Ops.u (Dtu.pickT (lk rfl) (lk rfl)) rfl ?_
      refine Ops.u (Dtu.mv (lk rfl)) rfl ?_
      refine Ops.decP 110 rfl (fun _ => ?_) (fun hn => absurd (by first | omega | assumption | decide) hn)
      refine Ops.gu rfl rfl rfl (Dtu.mv (lk rfl)) rfl ?_
      refine Ops.gu rfl rfl rfl (Dtu.eql (lk rfl) (lk rfl)) rfl ?_
      refine Ops.gu rfl rfl rfl (Dtu.mv (lk rfl)) rfl ?_
      refine Ops.decP 113 rfl (fun hy => absurd hy (by first | omega | assumption | decide)) (fun _ => ?_)
      refine Ops.gn rfl rfl rfl rfl rfl ?_
      refine Ops.gn rfl rfl rfl rfl rfl ?_
      refine Ops.gu rfl rfl rfl (Dtu.pickF (lk rfl) (lk rfl)) rfl ?_
      refine Ops.gu rfl rfl rfl (Dtu.mv (lk rfl)) rfl ?_
      refine Ops.gn rfl rfl rfl rfl rfl ?_
      refine Ops.gn rfl rfl rfl rfl rfl ?_
      refine Ops.gu rfl rfl rfl (Dtu.pickF (lk rfl) (lk rfl)) rfl ?_
      refine Ops.gu rfl rfl rfl (Dtu.mv (lk rfl)) rfl ?_
      refine Ops.gu rfl rfl rfl (Dtu.mv (lk rfl)) rfl ?_
      refine Ops.gu rfl rfl rfl (Dtu.eql (lk rfl) (lk rfl)) rfl ?_
      refine Ops.gu rfl rfl rfl (Dtu.mv (lk rfl)) rfl ?_
      refine Ops.decP 124 rfl (fun _ => ?_) (fun hn => absurd (by first | omega | assumption | decide) hn)
      refine Ops.gu rfl rfl rfl (Dtu.mv (lk rfl)) rfl ?_
      refine Ops.gu rfl rfl rfl (Dtu.eql (lk rfl) (lk rfl)) rfl ?_
      refine Ops.gu rfl rfl rfl (Dtu.pickT (lk rfl) (lk rfl)) rfl ?_
      refine Ops.gu rfl rfl rfl (Dtu.mv (lk rfl)) rfl ?_
      refine Ops.decP 128 rfl (fun _ => ?_) (fun hn => absurd (by first | omega | assumption | decide) hn)
      refine Ops.gu rfl rfl rfl (Dtu.mv (lk rfl)) rfl ?_
      refine Ops.gu rfl rfl rfl (Dtu.eql (lk rfl) (lk rfl)) rfl ?_
      refine Ops.gu rfl rfl rfl (Dtu.pickT (lk rfl) (lk rfl)) rfl ?_
      refine Ops.gu rfl rfl rfl (Dtu.pickF (lk rfl) (lk rfl)) rfl ?_
      refine Ops.u (Dtu.pickT (lk rfl) (lk rfl)) rfl ?_
      refine Ops.u (Dtu.mv (lk rfl)) rfl ?_
      refine Ops.decP 134 rfl (fun _ => ?_) (fun hn => absurd (by first | omega | assumption | decide) hn)
      refine Ops.gu rfl rfl rfl (Dtu.mv (lk rfl)) rfl ?_
      refine Ops.gs rfl rfl rfl (Stp.callOwn [0] rfl rfl Try.call49 (lks rfl) (fun E' le hat => cancel_s E' _ _) ?_) rfl
      rintro _ _ ⟨rfl, rfl⟩
      refine Ops.gu rfl rfl rfl (Dtu.eql (lk rfl) (lk rfl)) rfl ?_
      refine Ops.u (Dtu.pickT (lk rfl) (lk rfl)) rfl ?_
      refine Ops.u (Dtu.asg (lk rfl)) rfl ?_
      refine Ops.nil ?_
      refine Then.next ?_
      refine Body.ret ?_
      exact ⟨.inr rfl, _, pk [] rfl, congrArg Value.bool (decide_eq_true w3), rfl⟩
end Go.Proofs.Ytpmapedhigjalaa
end
section
/- FileSends: the plain law. -/
namespace Go.Proofs.Ytpmapedhigjalaa
set_option maxRecDepth 100000
set_option maxHeartbeats 4000000
set_option linter.unusedVariables false
set_option linter.unusedSimpArgs false
open Go.Sx
/-- a sender at another place -/
def Snd.wp (z : Snd) (p : Nat) : Snd := ⟨z.id, z.nm, z.bs, z.sm, z.x, p, z.gone⟩
/-- a sender that told so many chunks -/
def Snd.off (z : Snd) (i : Nat) : Snd := z.wp (z.pl i)
theorem Snd.off_gon (z : Snd) (i : Nat) : (z.off i).gon = z.off (i + 1) := rfl
theorem Snd.off_zero (z : Snd) : z.off 0 = z := rfl
theorem Snd.wp_ok {z : Snd} (ok : z.Ok) (p : Nat) : (z.wp p).Ok := ⟨ok.len, ok.x⟩
theorem Snd.cy_at {z : Snd} (h : 0 < (miss z.n z.x).length) : ∃ a, a < (miss z.n z.x).length ∧ ∀ i, z.cy i = (miss z.n z.x)[(a + i) % (miss z.n z.x).length]! := by
  have hs := miss_sorted z.n z.x
  obtain ⟨a, ha, he⟩ := nx_at (p := z.pos) h
  refine ⟨a, ha, fun i => ?_⟩
  induction i with
  | zero => rw [Nat.add_zero, Nat.mod_eq_of_lt ha]; exact he
  | succ i ih =>
    have h1 : z.cy (i + 1) = nx (miss z.n z.x) (z.cy i + 1) := rfl
    rw [h1, ih, nx_step hs (Nat.mod_lt _ (by omega)), Nat.mod_add_mod, Nat.add_assoc]
theorem sorted_inj {l : List Nat} (h : l.Pairwise (· < ·)) {i j : Nat} (hi : i < l.length) (hj : j < l.length) (e : l[i]! = l[j]!) : i = j := by
  rcases Nat.lt_trichotomy i j with k | k | k
  · have := sorted_lt h k hj; omega
  · exact k
  · have := sorted_lt h k hi; omega
theorem Snd.cy_inj {z : Snd} {i j : Nat} (hi : i < (miss z.n z.x).length) (hj : j < (miss z.n z.x).length) (e : z.cy i = z.cy j) : i = j := by
  obtain ⟨a, ha, hc⟩ := Snd.cy_at (z := z) (by omega)
  rw [hc, hc] at e
  have e2 := sorted_inj (miss_sorted z.n z.x) (Nat.mod_lt _ (by omega)) (Nat.mod_lt _ (by omega)) e
  generalize (miss z.n z.x).length = L at *
  rcases Nat.lt_or_ge (a + i) L with h1 | h1 <;> rcases Nat.lt_or_ge (a + j) L with h2 | h2
  · rw [Nat.mod_eq_of_lt h1, Nat.mod_eq_of_lt h2] at e2; omega
  · rw [Nat.mod_eq_of_lt h1, Nat.mod_eq_sub_mod h2, Nat.mod_eq_of_lt (by omega)] at e2; omega
  · rw [Nat.mod_eq_of_lt h2, Nat.mod_eq_sub_mod h1, Nat.mod_eq_of_lt (by omega)] at e2; omega
  · rw [Nat.mod_eq_sub_mod h1, Nat.mod_eq_sub_mod h2, Nat.mod_eq_of_lt (by omega), Nat.mod_eq_of_lt (by omega)] at e2; omega
theorem Snd.cy_all {z : Snd} {j : Nat} (hj : j ∈ miss z.n z.x) : ∃ i, i < (miss z.n z.x).length ∧ z.cy i = j := by
  obtain ⟨b, hb, e⟩ := List.getElem_of_mem hj
  obtain ⟨a, ha, hc⟩ := Snd.cy_at (z := z) (by omega)
  have hg : (miss z.n z.x)[b]! = j := by rw [getElem!_pos _ b hb]; exact e
  clear e
  generalize (miss z.n z.x).length = L at *
  rcases Nat.lt_or_ge b a with h | h
  · refine ⟨L + b - a, by omega, ?_⟩
    rw [hc, show a + (L + b - a) = b + L by omega, Nat.add_mod_right, Nat.mod_eq_of_lt hb, hg]
  · refine ⟨b - a, by omega, ?_⟩
    rw [hc, show a + (b - a) = b by omega, Nat.mod_eq_of_lt hb, hg]
theorem missM {n x j : Nat} : j ∈ miss n x ↔ j < n ∧ x.testBit j = false := by simp [miss]
theorem Snd.left_miss {z : Snd} (hg : z.gone = false) : z.left = (miss z.n z.x).length := by
  rw [pc_miss, Snd.left, hg]; rfl
/-- all bits -/
theorem bitsN_all {g : Nat → Bool} {n : Nat} (h : ∀ i, i < n → g i = true) : bitsN g n = 2 ^ n - 1 := by
  refine Nat.eq_of_testBit_eq fun i => ?_
  rw [bitsN_bit, Nat.testBit_two_pow_sub_one]
  by_cases hi : i < n
  · simp [hi, h i hi]
  · simp [hi]
theorem kF_bits {id : Int} {nm : ByteArray} {bs : List Int} {cs : List Kc} (hl : bs.length ≤ 4096) (h : Have bs cs (nCh bs)) : (kF id nm bs cs).bits = 2 ^ nCh bs - 1 := by
  unfold Fi.bits
  rw [kF_n hl]
  exact bitsN_all fun i hi => (kF_good (h i hi)).1
theorem or_all {x n : Nat} (h : x < 2 ^ n) : x ||| (2 ^ n - 1) = 2 ^ n - 1 := by
  refine Nat.eq_of_testBit_eq fun i => ?_
  rw [Nat.testBit_or, Nat.testBit_two_pow_sub_one]
  by_cases hi : i < n
  · simp [hi]
  · have : x.testBit i = false := Nat.testBit_lt_two_pow (Nat.lt_of_lt_of_le h (Nat.pow_le_pow_right (by omega) (by omega)))
    simp [hi, this]
/-- a sender that was told that all is there is done -/
theorem Snd.know_all {z : Snd} (ok : z.Ok) (hg : z.gone = false) : askF (bmR (z.n : Nat) ((2 ^ z.n - 1 : Nat) : Int)) (z.n : Nat) z.n z.gone = 0 ∧ (z.know (z.n : Nat) ((2 ^ z.n - 1 : Nat) : Int)).st = 2 ∧ (z.know (z.n : Nat) ((2 ^ z.n - 1 : Nat) : Int)).left = 0 ∧ (z.know (z.n : Nat) ((2 ^ z.n - 1 : Nat) : Int)).Ok := by
  have hp := Nat.one_le_two_pow (n := z.n)
  obtain ⟨hu, hr⟩ := bits_u (k := z.n) (n := z.n) (x := 2 ^ z.n - 1) (by omega) (Nat.le_refl _) ok.n
  have ha : askF (bmR (z.n : Nat) ((2 ^ z.n - 1 : Nat) : Int)) (z.n : Nat) z.n z.gone = 0 := by
    rw [hr, hg]; unfold askF; rw [if_pos ⟨rfl, rfl⟩]; rfl
  have hok := Snd.know_ok ok (n := z.n) hu
  have hk : z.know (z.n : Nat) ((2 ^ z.n - 1 : Nat) : Int) = ⟨z.id, z.nm, z.bs, z.sm, 2 ^ z.n - 1, z.pos, z.gone⟩ := by
    unfold Snd.know
    rw [if_pos ha, Int.toNat_natCast, or_all ok.x]
  have hst : (z.know (z.n : Nat) ((2 ^ z.n - 1 : Nat) : Int)).st = 2 := by
    rw [hk]
    have hf : Snd.full ⟨z.id, z.nm, z.bs, z.sm, 2 ^ z.n - 1, z.pos, z.gone⟩ = true := by
      unfold Snd.full allN
      refine decide_eq_true ?_
      show ((2 ^ z.n - 1 : Nat) : Int) = 2 ^ ((z.n : Nat) : Int).toNat - 1
      rw [Int.toNat_natCast, Int.ofNat_sub hp]; simp
    unfold Snd.st
    rw [hf]
    dsimp only
    rw [hg]; rfl
  have hg2 : (z.know (z.n : Nat) ((2 ^ z.n - 1 : Nat) : Int)).gone = false := by rw [hk]; exact hg
  exact ⟨ha, hst, (Snd.left_st hok hg2).2 hst, hok⟩
/-- which chunks came -/
def cameL (p : Nat → Bool) : List Bool := (List.range 64).map p
theorem cameL_set (p : Nat → Bool) {k : Nat} (hk : k < 64) : (cameL p).set k true = cameL fun j => j == k || p j := by
  refine List.ext_getElem (by simp [cameL]) fun j h1 h2 => ?_
  rw [List.getElem_set]
  simp only [cameL, List.getElem_map, List.getElem_range]
  split
  · rename_i e; simp [e]
  · rename_i e; simp [show (j == k) = false by simpa using fun h => e h.symm]
theorem cameL_at (p : Nat → Bool) {k : Nat} (hk : k < 64) : ((cameL p).map Value.bool)[k]? = some (.bool (p k)) := by
  rw [List.getElem?_map, cameL, List.getElem?_map, List.getElem?_range hk]; rfl
theorem cameL_put (p : Nat → Bool) {k : Nat} (hk : k < 64) : PutC ((cameL p).map Value.bool) k [.bool true] ((cameL fun j => j == k || p j).map Value.bool) := by
  rw [← cameL_set p hk]
  obtain ⟨a, y, c, h, rfl⟩ := list_at (cameL p) (i := k) (by simp [cameL]; exact hk)
  rw [h, set_at]
  have := putC_mk (a := a.map Value.bool) (bs := [.bool y]) (us := [.bool true]) (c := c.map Value.bool) (off := a.length) (by simp) rfl rfl
  simpa using this
end Go.Proofs.Ytpmapedhigjalaa
end
section
/- FileSends: the walk. -/
namespace Go.Proofs.Ytpmapedhigjalaa
set_option maxRecDepth 100000
set_option maxHeartbeats 4000000
set_option linter.unusedVariables false
set_option linter.unusedSimpArgs false
open Go.Sx
theorem info_n (E : Env) (b : Nat) (id : Int) (nm : ByteArray) (bs : List Int) : Does Try.prog 55 #[.pointer (some ⟨b, 0, none⟩)] E ([sndP b (Snd.new id nm bs)]) fun r H' => r = .agg (.int .u64 id :: .string nm :: .int .i64 (bs.length : Nat) :: .int .u8 (shaS bs 0) :: .int .u8 (shaS bs 1) :: .int .u8 (shaS bs 2) :: .int .u8 (shaS bs 3) :: .int .u8 (shaS bs 4) :: .int .u8 (shaS bs 5) :: .int .u8 (shaS bs 6) :: .int .u8 (shaS bs 7) :: .int .u8 (shaS bs 8) :: .int .u8 (shaS bs 9) :: .int .u8 (shaS bs 10) :: .int .u8 (shaS bs 11) :: .int .u8 (shaS bs 12) :: .int .u8 (shaS bs 13) :: .int .u8 (shaS bs 14) :: .int .u8 (shaS bs 15) :: .int .u8 (shaS bs 16) :: .int .u8 (shaS bs 17) :: .int .u8 (shaS bs 18) :: .int .u8 (shaS bs 19) :: .int .u8 (shaS bs 20) :: .int .u8 (shaS bs 21) :: .int .u8 (shaS bs 22) :: .int .u8 (shaS bs 23) :: .int .u8 (shaS bs 24) :: .int .u8 (shaS bs 25) :: .int .u8 (shaS bs 26) :: .int .u8 (shaS bs 27) :: .int .u8 (shaS bs 28) :: .int .u8 (shaS bs 29) :: .int .u8 (shaS bs 30) :: .int .u8 (shaS bs 31) :: []).toArray ∧ H' = [sndP b (Snd.new id nm bs)] := by
  exact info_s E b (Snd.new id nm bs)
theorem hasB_bit {n x i : Nat} (hr : bmR (n : Int) (x : Int) = true) (hi : i < n) : hasB (n : Int) (x : Int) (i : Int) = x.testBit i := by
  unfold hasB
  rw [hr, Int.toNat_natCast, Int.toNat_natCast]
  simp [hi]
/-- what the loops keep -/
structure SInv (bs : List Int) (z : Snd) (cs : List Kc) : Prop where
  ok : z.Ok
  e : z.bs = bs
  g : z.gone = false
  k : Kept bs cs
  h : ∀ j, j < nCh bs → z.x.testBit j = true → cget cs (j : Nat) = some (kcOf bs j)
theorem SInv.n {bs : List Int} {z : Snd} {cs : List Kc} (h : SInv bs z cs) : z.n = nCh bs := by rw [Snd.n, h.e]; rfl
theorem kc_put {bs : List Int} {cs : List Kc} {j k : Nat} (h : j ≠ k → cget cs (j : Nat) = some (kcOf bs j)) : cget (cput cs (kcOf bs k)) (j : Nat) = some (kcOf bs j) := by
  by_cases e : j = k
  · subst e; exact cget_same _ _ rfl
  · exact (cget_other _ _ (show ¬ ((j : Nat) : Int) = ((k : Nat) : Int) by omega)).trans (h e)
/-- which chunks were told -/
def pC (z : Snd) : Nat → Nat → Bool
  | 0 => fun _ => false
  | i + 1 => fun j => j == z.cy i || pC z i j
theorem pC_iff {z : Snd} {i j : Nat} : pC z i j = true ↔ ∃ k, k < i ∧ z.cy k = j := by
  induction i with
  | zero => simp [pC]
  | succ i ih =>
    simp only [pC, Bool.or_eq_true, beq_iff_eq, ih]
    constructor
    · rintro (h | ⟨k, h1, h2⟩)
      · exact ⟨i, by omega, h.symm⟩
      · exact ⟨k, by omega, h2⟩
    · rintro ⟨k, h1, h2⟩
      by_cases e : k = i
      · subst e; exact .inl h2.symm
      · exact .inr ⟨k, by omega, h2⟩
theorem next_k (E : Env) (b : Nat) (z : Snd) (i : Nat) (hst : z.st = 0) : Does Try.prog 45 #[.pointer (some ⟨b, 0, none⟩)] E ([sndP b (z.off i)]) fun r H' => ∃ a2 c2, r = .tuple #[.int .i64 (z.cy i), .slice a2 (lenN z.bs.length (z.cy i)) c2, .bool true] ∧ H' = [sndP b (z.off (i + 1)), osl 5 1 (.slice a2 (lenN z.bs.length (z.cy i)) c2) (lenN z.bs.length (z.cy i)) ((chunk z.bs (z.cy i)).map (.int .u8))] := by
  exact next_s E b (z.off i) hst
theorem mapF (E : Env) (b : Nat) (id : Int) (nm : ByteArray) (bs : List Int) (cs : List Kc) (hA : At (stoP b [kF id nm bs cs]) E) (hlb : bs.length ≤ 4096) (hH : Have bs cs (nCh bs)) : Does Try.prog 71 #[.pointer (some ⟨b, 0, none⟩), .int .u64 id] E ([]) fun r H' => r = .tuple #[.agg #[.int .i64 (nCh bs : Nat), .int .u64 ((2 ^ nCh bs - 1 : Nat) : Int)], .int .i64 0] ∧ H' = [] := by
  have := mapK E b id nm bs cs hA hlb
  rwa [kF_bits hlb hH] at this
theorem sends26_ok (E : Env) (bv : Value) (bs : List Int) (n x sk : Int) (hs : Sl E [] 1 bv bs.length (bs.map (.int .u8))) (hb : Byt bs) (hx : U64 x) (hsk : 0 ≤ sk ∧ sk < 256) : Does Try.prog 11 #[bv, .agg #[.int .i64 n, .int .u64 x], .int .u8 sk] E ([]) fun r H' => r = .bool true ∧ H' = [] := by
  refine Does.pure hs.len fun hlb => ?_
  refine Does.pure (Sl.shape hs) fun ⟨a0, c0, hv0⟩ => ?_
  subst hv0
  refine Does.pure hs.capL fun hcap => ?_
  have hsub : ∀ c, c < nCh bs → Sl E [] 1 (subSl (.slice a0 bs.length c0) 1 (64 * c) (64 * c + lenN bs.length c) (capOf (.slice a0 bs.length c0))) (lenN bs.length c) ((chunk bs c).map (.int .u8)) := fun c hc => by
    have hl := lenN_le (n := bs.length) (i := c) hc
    have h := hs.subX (64 * c) (64 * c + lenN bs.length c) (capOf (.slice a0 bs.length c0)) (by omega) (by omega) (by omega) (Nat.le_refl _)
    rwa [Nat.add_sub_cancel_left] at h
  by_cases hL : bs.length > 4096
  · refine Does.go _ _ Try.func11 rfl Try.ntmps11 rfl rfl ?_
    skip
    refine Body.seq ?_
    refine Body.region ?_
    refine Ops.s (Stp.box (lk rfl) rfl (fun b4 => ?_)) rfl
    refine Ops.u (Dtu.asg (lk rfl)) rfl ?_
    refine Ops.nil ?_
    refine Then.next ?_
    refine Body.seq ?_
    refine Body.seq ?_
    refine Body.region ?_
    refine Ops.u (Dtu.mv (lk rfl)) rfl ?_
    refine Ops.u (Dtu.lenS Try.underlying73 (Sl.up hs) (lk rfl)) rfl ?_
    refine Ops.u (Dtu.gtr (lk rfl) (lk rfl)) rfl ?_
    refine Ops.nil ?_
    refine Then.next ?_
    refine Body.condP (lk rfl) (fun _ => ?_) (fun hn => absurd (by first | omega | assumption | decide) hn)
    refine Body.seq ?_
    refine Body.region ?_
    refine Ops.s (Stp.call rfl Try.call36 (lks rfl) (fun E' le hat => alive26_ok E') ?_) rfl
    rintro _ _ ⟨rfl, rfl⟩
    refine Ops.u (Dtu.asg (lk rfl)) rfl ?_
    refine Ops.nil ?_
    refine Then.next ?_
    refine Body.ret ?_
    refine Then.ret ?_
    exact ⟨.inr rfl, _, pk [] rfl, rfl, rfl⟩
  have hlb4 : bs.length ≤ 4096 := by omega
  have hi : infoR 5 (⟨#[110]⟩ : ByteArray) bs.length = true := decide_eq_true ⟨by decide, by decide, by decide, by decide, by omega, by omega⟩
  have ok0 : (Snd.new 5 (⟨#[110]⟩ : ByteArray) bs).Ok := ⟨hlb4, Nat.two_pow_pos _⟩
  have hn0 : (Snd.new 5 (⟨#[110]⟩ : ByteArray) bs).n = nCh bs := rfl
  have hg0 : (Snd.new 5 (⟨#[110]⟩ : ByteArray) bs).gone = false := rfl
  obtain ⟨y, rfl⟩ := Int.eq_ofNat_of_zero_le hx.1
  refine Does.go _ _ Try.func11 rfl Try.ntmps11 rfl rfl ?_
  skip
  refine Body.seq ?_
  refine Body.region ?_
  refine Ops.s (Stp.box (lk rfl) rfl (fun b4 => ?_)) rfl
  refine Ops.u (Dtu.asg (lk rfl)) rfl ?_
  refine Ops.nil ?_
  refine Then.next ?_
  refine Body.seq ?_
  refine Body.seq ?_
  refine Body.region ?_
  refine Ops.u (Dtu.mv (lk rfl)) rfl ?_
  refine Ops.u (Dtu.lenS Try.underlying73 (Sl.up hs) (lk rfl)) rfl ?_
  refine Ops.u (Dtu.gtr (lk rfl) (lk rfl)) rfl ?_
  refine Ops.nil ?_
  refine Then.next ?_
  refine Body.condP (lk rfl) (fun hy => absurd hy (by first | omega | assumption | decide)) (fun _ => ?_)
  refine Body.skip ?_
  refine Then.next ?_
  refine Body.seq ?_
  refine Body.region ?_
  refine Ops.u (Dtu.mv (lk rfl)) rfl ?_
  refine Ops.s (Stp.call rfl Try.call37 (lks rfl) (fun E' le hat => new_s E' _ _ _ bs (Sl.mono hs le) hb (by assumption)) ?_) rfl
  rintro _ _ ⟨nb33, rfl, rfl⟩
  refine Ops.u (Dtu.mv (lk rfl)) rfl ?_
  refine Ops.u (Dtu.ext (lk rfl) rfl) rfl ?_
  refine Ops.u (Dtu.ext (lk rfl) rfl) rfl ?_
  refine Ops.u (Dtu.asg (lk rfl)) rfl ?_
  refine Ops.u (Dtu.asg (lk rfl)) rfl ?_
  refine Ops.nil ?_
  refine Then.next ?_
  refine Body.seq ?_
  refine Body.seq ?_
  refine Body.region ?_
  refine Ops.u (Dtu.mv (lk rfl)) rfl ?_
  refine Ops.u (Dtu.neq (lk rfl) (lk rfl)) rfl ?_
  refine Ops.u (Dtu.mv (lk rfl)) rfl ?_
  refine Ops.decP 38 rfl (fun hy => absurd hy (by first | omega | assumption | decide)) (fun _ => ?_)
  refine Ops.gu rfl rfl rfl (Dtu.mv (lk rfl)) rfl ?_
  refine Ops.gu rfl rfl rfl (Dtu.eqNil Try.underlying75 (lk rfl) (lk rfl)) rfl ?_
  refine Ops.u (Dtu.pickF (lk rfl) (lk rfl)) rfl ?_
  refine Ops.nil ?_
  refine Then.next ?_
  refine Body.condF (lk rfl) ?_
  refine Body.skip ?_
  refine Then.next ?_
  refine Body.seq ?_
  refine Body.region ?_
  refine Ops.s (Stp.call rfl Try.call65 (lks rfl) (fun E' le hat => sto_new E') ?_) rfl
  rintro _ _ ⟨t42, rfl, rfl⟩
  refine Ops.u (Dtu.asg (lk rfl)) rfl ?_
  refine Ops.nil ?_
  refine Then.next ?_
  refine Body.seq ?_
  refine Body.seq ?_
  refine Body.region ?_
  refine Ops.u (Dtu.mv (lk rfl)) rfl ?_
  refine Ops.u (Dtu.mv (lk rfl)) rfl ?_
  refine Ops.s (Stp.callOwn [1] rfl rfl Try.call55 (lks rfl) (fun E' le hat => info_n E' _ _ _ _) ?_) rfl
  rintro _ _ ⟨rfl, rfl⟩
  refine Ops.s (Stp.callOwn [1] rfl rfl Try.call66 (lks rfl) (fun E' le hat => open0 E' _ _ _ _ (by first | with_reducible assumption | omega | assumption)) ?_) rfl
  rintro _ _ ⟨rfl, rfl⟩
  refine Ops.u (Dtu.mv (lk rfl)) rfl ?_
  refine Ops.u (Dtu.ext (lk rfl) rfl) rfl ?_
  refine Ops.u (Dtu.ext (lk rfl) rfl) rfl ?_
  refine Ops.s (Stp.alloc ty86 (fun b10 => ?_)) rfl
  refine Ops.e (Stp.store 0 Try.sizeOf86 (lk rfl) (lk rfl) rfl rfl rfl rfl rfl rfl rfl ?_)
  refine Ops.u (Dtu.asg (lk rfl)) rfl ?_
  refine Ops.nil ?_
  refine Then.next ?_
  refine Body.seq ?_
  refine Body.region ?_
  refine Ops.u (Dtu.mv (lk rfl)) rfl ?_
  refine Ops.u (Dtu.neq (lk rfl) (lk rfl)) rfl ?_
  refine Ops.nil ?_
  refine Then.next ?_
  refine Body.condP (lk rfl) (fun hy => absurd hy (by first | omega | assumption | decide)) (fun _ => ?_)
  refine Body.skip ?_
  refine Then.next ?_
  refine Body.seqL (γ := Snd × List Kc) [0, 1, 2, 4, 6, 7, 8, 9, 11] rfl (fun g => []) (fun g => [(1, stoP t42 [kF 5 (⟨#[110]⟩ : ByteArray) bs g.2]), (2, sndP nb33 g.1)]) (fun _ => rfl) (fun _ _ => rfl) (fun g => SInv bs g.1 g.2) ?_ ?_
  · by_cases ha : askF (bmR n (y : Nat)) n (Snd.new 5 (⟨#[110]⟩ : ByteArray) bs).n (Snd.new 5 (⟨#[110]⟩ : ByteArray) bs).gone = 0
    · obtain ⟨hr, hn, _⟩ := askF_0 ha
      rw [hn0] at hn
      subst hn
      have okz := Snd.know_ok ok0 (n := (nCh bs : Nat)) hx
      have ez : (Snd.new 5 (⟨#[110]⟩ : ByteArray) bs).know (nCh bs : Nat) (y : Nat) = ⟨5, (⟨#[110]⟩ : ByteArray), bs, shaS bs, 0 ||| y, 0, false⟩ := if_pos ha
      have hzx : ((Snd.new 5 (⟨#[110]⟩ : ByteArray) bs).know (nCh bs : Nat) (y : Nat)).x = y := by rw [ez]; exact Nat.zero_or y
      have hzb : ((Snd.new 5 (⟨#[110]⟩ : ByteArray) bs).know (nCh bs : Nat) (y : Nat)).bs = bs := by rw [ez]
      have hzg : ((Snd.new 5 (⟨#[110]⟩ : ByteArray) bs).know (nCh bs : Nat) (y : Nat)).gone = false := by rw [ez]
      clear ez
      refine Body.seq ?_
      refine Body.region ?_
      refine Ops.u (Dtu.mv (lk rfl)) rfl ?_
      refine Ops.d (Det.lda Try.isAgg86 Try.sizeOf86 (lk rfl) (Rds.ow (m := 2) 3 rfl rfl) rfl) rfl ?_
      refine Ops.s (Stp.callOwn [2] rfl rfl Try.call46 (lks rfl) (fun E' le hat => know_s E' _ _ _ _ (by first | with_reducible assumption | omega | assumption)) ?_) rfl
      rintro _ _ ⟨rfl, rfl⟩
      refine Ops.u (Dtu.eql (lk rfl) (lk rfl)) rfl ?_
      refine Ops.nil ?_
      refine Then.next ?_
      refine Body.condP (lk rfl) (fun _ => ?_) (fun hn => absurd (by first | omega | assumption | decide) hn)
      refine Body.seq ?_
      refine Body.region ?_
      refine Ops.u (Dtu.asg (lk rfl)) rfl ?_
      refine Ops.nil ?_
      refine Then.next ?_
      refine Body.block ?_
      generalize (Snd.new 5 (⟨#[110]⟩ : ByteArray) bs).know (nCh bs : Nat) (y : Nat) = z1 at *
      refine Body.loopL (γ := Nat × List Kc) [0, 1, 2, 4, 6, 7, 8, 9, 11] rfl (fun g => [(12, .int .i64 (g.1 : Nat))]) (fun g => [(2, stoP t42 [kF 5 (⟨#[110]⟩ : ByteArray) bs g.2])]) (fun _ => rfl) (fun _ _ => rfl) (fun g => g.1 ≤ nCh bs ∧ Kept bs g.2 ∧ ∀ j, j < g.1 → y.testBit j = true → cget g.2 (j : Nat) = some (kcOf bs j)) (fun g => nCh bs - g.1) ((0, [])) (⟨Nat.zero_le _, Kept.nil _, fun j hj => absurd hj (Nat.not_lt_zero j)⟩) ⟨rfl, trivial⟩ rfl ?_
      rintro ⟨k, cs⟩ u ⟨hk, hK, hH⟩
      dsimp only at hk hK hH ⊢
      by_cases hlt : k < nCh bs
      · have hh := hasB_bit hr hlt
        have hl := lenN_le (n := bs.length) (i := k) hlt
        have hsc := hsub k hlt
        cases hbit : y.testBit k with
        | true =>
          rw [hbit] at hh
          have hnext : ∀ j, j < k + 1 → y.testBit j = true → cget (cput cs (kcOf bs k)) (j : Nat) = some (kcOf bs j) := fun j hj h => kc_put fun e => hH j (by omega) h
          refine Body.seq ?_
          refine Body.seq ?_
          refine Body.region ?_
          refine Ops.u (Dtu.mv (lk rfl)) rfl ?_
          refine Ops.u (Dtu.fld fa86_0 (lk rfl)) rfl ?_
          refine Ops.d (Det.ld Try.isAgg3 (lk rfl) (Rd.ow 3 rfl rfl)) rfl ?_
          refine Ops.u (Dtu.lss (lk rfl) (lk rfl)) rfl ?_
          refine Ops.nil ?_
          refine Then.next ?_
          refine Body.condP (lk rfl) (fun _ => ?_) (fun hn => absurd (by first | omega | assumption | decide) hn)
          refine Body.skip ?_
          refine Then.next ?_
          refine Body.seq ?_
          refine Body.block ?_
          refine Body.seq ?_
          refine Body.region ?_
          refine Ops.d (Det.lda Try.isAgg86 Try.sizeOf86 (lk rfl) (Rds.ow (m := 2) 3 rfl rfl) rfl) rfl ?_
          refine Ops.u (Dtu.mv (lk rfl)) rfl ?_
          refine Ops.s (Stp.call rfl Try.call72 (lks rfl) (fun E' le hat => bhas_ok E' _ _ _ (by first | with_reducible assumption | omega | assumption)) ?_) rfl
          rintro _ _ ⟨rfl, rfl⟩
          refine Ops.u (Dtu.mv (lk rfl)) rfl ?_
          refine Ops.dec 65 rfl (fun _ => ?_) (fun hn => absurd hn (by first | (rw [hh]; decide) | simp [hh]))
          refine Ops.gu rfl rfl rfl (Dtu.mv (lk rfl)) rfl ?_
          refine Ops.gu rfl rfl rfl (Dtu.mv (lk rfl)) rfl ?_
          refine Ops.gu rfl rfl rfl (Dtu.mv (lk rfl)) rfl ?_
          refine Ops.gu rfl rfl rfl (Dtu.mv (lk rfl)) rfl ?_
          refine Ops.gu rfl rfl rfl (Dtu.mul (lk rfl) (lk rfl) (w64 (by omega) (by omega))) rfl ?_
          refine Ops.gu rfl rfl rfl (Dtu.mv (lk rfl)) rfl ?_
          refine Ops.gu rfl rfl rfl (Dtu.mul (lk rfl) (lk rfl) (w64 (by omega) (by omega))) rfl ?_
          refine Ops.gu rfl rfl rfl (Dtu.mv (lk rfl)) rfl ?_
          refine Ops.gu rfl rfl rfl (Dtu.lenS Try.underlying73 (Sl.up hs) (lk rfl)) rfl ?_
          refine Ops.gu rfl rfl rfl (Dtu.mv (lk rfl)) rfl ?_
          refine Ops.gs rfl rfl rfl (Stp.call rfl Try.call63 (lks rfl) (fun E' le hat => slengthN_ok E' _ _ (by first | with_reducible assumption | omega | assumption) (by first | with_reducible assumption | omega | assumption)) ?_) rfl
          rintro _ _ ⟨rfl, rfl⟩
          refine Ops.gu rfl rfl rfl (Dtu.add (lk rfl) (lk rfl) (w64 (by omega) (by omega))) rfl ?_
          refine Ops.gu rfl rfl rfl (Dtu.slLH (64 * k) (64 * k + lenN bs.length k) Try.underlying73 Try.sizeOf5 (Sl.up hs) (lk rfl) (lk rfl) (lk rfl) (by omega) (by omega) (by omega) (by omega)) rfl ?_
          refine Ops.gs rfl rfl rfl (Stp.callOwn [2] rfl rfl Try.call68 (lks rfl) (fun E' le hat => writeK E' _ 5 _ bs _ _ _ (by first | exact Sl.mono (by assumption) le | exact Sl.hatI hat 0 rfl | exact Sl.hatI hat 1 rfl | exact Sl.hatI hat 2 rfl | exact Sl.hatI hat 3 rfl | exact Sl.hatI hat 4 rfl | exact Sl.hatI hat 5 rfl | exact Sl.hatI hat 6 rfl | exact Sl.hatI hat 7 rfl | exact Sl.hatI hat 8 rfl | exact Sl.hatI hat 9 rfl | exact Sl.hatI hat 10 rfl | exact Sl.hatI hat 11 rfl | exact Sl.hatI hat 12 rfl | exact Sl.hatI hat 13 rfl | exact Sl.hatI hat 14 rfl | exact Sl.hatI hat 15 rfl | exact Sl.hatW hat 0 rfl | exact Sl.hatW hat 1 rfl | exact Sl.hatW hat 2 rfl | exact Sl.hatW hat 3 rfl | exact Sl.hatW hat 4 rfl | exact Sl.hatW hat 5 rfl | exact Sl.hatW hat 6 rfl | exact Sl.hatW hat 7 rfl | exact Sl.hatW hat 8 rfl | exact Sl.hatW hat 9 rfl) (by assumption) (by assumption) (by assumption)) ?_) rfl
          rintro _ _ ⟨rfl, rfl⟩
          refine Ops.gu rfl rfl rfl (Dtu.neq (lk rfl) (lk rfl)) rfl ?_
          refine Ops.u (Dtu.pickT (lk rfl) (lk rfl)) rfl ?_
          refine Ops.nil ?_
          refine Then.next ?_
          refine Body.condP (lk rfl) (fun hy => absurd hy (by first | omega | assumption | decide)) (fun _ => ?_)
          refine Body.skip ?_
          refine Blk.norm ?_
          refine Then.next ?_
          refine Body.region ?_
          refine Ops.u (Dtu.mv (lk rfl)) rfl ?_
          refine Ops.u (Dtu.add (lk rfl) (lk rfl) (w64 (by omega) (by omega))) rfl ?_
          refine Ops.u (Dtu.asg (lk rfl)) rfl ?_
          refine Ops.nil ?_
          refine Round.goL [1, 1, 0, 0] (k + 1, cput cs (kcOf bs k)) rfl ⟨rfl, trivial⟩ rfl rfl ⟨hlt, hK.put hlt, hnext⟩ (by dsimp only; omega)
        | false =>
          rw [hbit] at hh
          have hnext : ∀ j, j < k + 1 → y.testBit j = true → cget cs (j : Nat) = some (kcOf bs j) := fun j hj h => by
            by_cases e : j = k
            · rw [e, hbit] at h; cases h
            · exact hH j (by omega) h
          refine Body.seq ?_
          refine Body.seq ?_
          refine Body.region ?_
          refine Ops.u (Dtu.mv (lk rfl)) rfl ?_
          refine Ops.u (Dtu.fld fa86_0 (lk rfl)) rfl ?_
          refine Ops.d (Det.ld Try.isAgg3 (lk rfl) (Rd.ow 3 rfl rfl)) rfl ?_
          refine Ops.u (Dtu.lss (lk rfl) (lk rfl)) rfl ?_
          refine Ops.nil ?_
          refine Then.next ?_
          refine Body.condP (lk rfl) (fun _ => ?_) (fun hn => absurd (by first | omega | assumption | decide) hn)
          refine Body.skip ?_
          refine Then.next ?_
          refine Body.seq ?_
          refine Body.block ?_
          refine Body.seq ?_
          refine Body.region ?_
          refine Ops.d (Det.lda Try.isAgg86 Try.sizeOf86 (lk rfl) (Rds.ow (m := 2) 3 rfl rfl) rfl) rfl ?_
          refine Ops.u (Dtu.mv (lk rfl)) rfl ?_
          refine Ops.s (Stp.call rfl Try.call72 (lks rfl) (fun E' le hat => bhas_ok E' _ _ _ (by first | with_reducible assumption | omega | assumption)) ?_) rfl
          rintro _ _ ⟨rfl, rfl⟩
          refine Ops.u (Dtu.mv (lk rfl)) rfl ?_
          refine Ops.dec 65 rfl (fun hn => absurd hn (by first | (rw [hh]; decide) | simp [hh])) (fun _ => ?_)
          refine Ops.gn rfl rfl rfl rfl rfl ?_
          refine Ops.gn rfl rfl rfl rfl rfl ?_
          refine Ops.gn rfl rfl rfl rfl rfl ?_
          refine Ops.gn rfl rfl rfl rfl rfl ?_
          refine Ops.gn rfl rfl rfl rfl rfl ?_
          refine Ops.gn rfl rfl rfl rfl rfl ?_
          refine Ops.gn rfl rfl rfl rfl rfl ?_
          refine Ops.gn rfl rfl rfl rfl rfl ?_
          refine Ops.gn rfl rfl rfl rfl rfl ?_
          refine Ops.gn rfl rfl rfl rfl rfl ?_
          refine Ops.gn rfl rfl rfl rfl rfl ?_
          refine Ops.gn rfl rfl rfl rfl rfl ?_
          refine Ops.gn rfl rfl rfl rfl rfl ?_
          refine Ops.gn rfl rfl rfl rfl rfl ?_
          refine Ops.gn rfl rfl rfl rfl rfl ?_
          refine Ops.u (Dtu.pickF (lk rfl) (lk rfl)) rfl ?_
          refine Ops.nil ?_
          refine Then.next ?_
          refine Body.condF (lk rfl) ?_
          refine Body.skip ?_
          refine Blk.norm ?_
          refine Then.next ?_
          refine Body.region ?_
          refine Ops.u (Dtu.mv (lk rfl)) rfl ?_
          refine Ops.u (Dtu.add (lk rfl) (lk rfl) (w64 (by omega) (by omega))) rfl ?_
          refine Ops.u (Dtu.asg (lk rfl)) rfl ?_
          refine Ops.nil ?_
          refine Round.goL [0, 0, 0, 0] (k + 1, cs) rfl ⟨rfl, trivial⟩ rfl rfl ⟨hlt, hK, hnext⟩ (by dsimp only; omega)
      · have hfin : ∀ j, j < nCh bs → z1.x.testBit j = true → cget cs (j : Nat) = some (kcOf bs j) := fun j hj h => hH j (by omega) (by rwa [hzx] at h)
        refine Body.seq ?_
        refine Body.seq ?_
        refine Body.region ?_
        refine Ops.u (Dtu.mv (lk rfl)) rfl ?_
        refine Ops.u (Dtu.fld fa86_0 (lk rfl)) rfl ?_
        refine Ops.d (Det.ld Try.isAgg3 (lk rfl) (Rd.ow 3 rfl rfl)) rfl ?_
        refine Ops.u (Dtu.lss (lk rfl) (lk rfl)) rfl ?_
        refine Ops.nil ?_
        refine Then.next ?_
        refine Body.condP (lk rfl) (fun hy => absurd hy (by first | omega | assumption | decide)) (fun _ => ?_)
        refine Body.exit ?_
        refine Then.exit ?_
        refine Round.exit ?_
        refine Blk.here ?_
        refine Joint.goL [1, 1, 0, 0] (z1, cs) rfl trivial rfl rfl ⟨okz, hzb, hzg, hK, hfin⟩
    · have ez : (Snd.new 5 (⟨#[110]⟩ : ByteArray) bs).know n (y : Nat) = Snd.new 5 (⟨#[110]⟩ : ByteArray) bs := if_neg ha
      refine Body.seq ?_
      refine Body.region ?_
      refine Ops.u (Dtu.mv (lk rfl)) rfl ?_
      refine Ops.d (Det.lda Try.isAgg86 Try.sizeOf86 (lk rfl) (Rds.ow (m := 2) 3 rfl rfl) rfl) rfl ?_
      refine Ops.s (Stp.callOwn [2] rfl rfl Try.call46 (lks rfl) (fun E' le hat => know_s E' _ _ _ _ (by first | with_reducible assumption | omega | assumption)) ?_) rfl
      rintro _ _ ⟨rfl, rfl⟩
      refine Ops.u (Dtu.eql (lk rfl) (lk rfl)) rfl ?_
      refine Ops.nil ?_
      refine Then.next ?_
      refine Body.condP (lk rfl) (fun hy => absurd hy (by first | omega | assumption | decide)) (fun _ => ?_)
      refine Body.skip ?_
      refine Joint.goL [1, 1, 0, 0] (Snd.new 5 (⟨#[110]⟩ : ByteArray) bs, []) rfl trivial rfl (by (try dsimp only); rw [ez]; try rfl) ⟨ok0, rfl, rfl, Kept.nil _, fun j _ h => by exfalso; revert h; show Nat.testBit 0 j = true → _; simp⟩
  rintro ⟨z, cs⟩ u I
  dsimp only at I ⊢
  obtain ⟨q, hq, hq2⟩ : ∃ q : Nat, ibit .and .u8 sk 7 = q ∧ q < 256 := by
    have := u8_rng ((BitVec.ofInt 8 sk &&& BitVec.ofInt 8 7).toNat : Int)
    obtain ⟨v, hv⟩ := Int.eq_ofNat_of_zero_le this.1
    exact ⟨v, hv, by omega⟩
  skip
  refine Body.seqL (γ := Nat) [0, 1, 2, 4, 6, 7, 8, 9, 11] rfl (fun p => []) (fun p => [(2, sndP nb33 (z.wp p))]) (fun _ => rfl) (fun _ _ => rfl) (fun p => True) ?_ ?_
  · refine Body.seq ?_
    refine Body.region ?_
    refine Ops.u (Dtu.asg (lk rfl)) rfl ?_
    refine Ops.nil ?_
    refine Then.next ?_
    refine Body.block ?_
    refine Body.loopL (γ := Nat × Nat) [0, 1, 2, 4, 6, 7, 8, 9, 11] rfl (fun g => [(13, .int .i64 (g.1 : Nat))]) (fun g => [(2, sndP nb33 (z.wp g.2))]) (fun _ => rfl) (fun _ _ => rfl) (fun g => g.1 ≤ q) (fun g => q - g.1) ((0, z.pos)) (Nat.zero_le _) ⟨rfl, trivial⟩ rfl ?_
    rintro ⟨k, p⟩ u1 hk
    dsimp only at hk ⊢
    by_cases hlt : k < q
    · by_cases hst : (z.wp p).st = 0
      · refine Body.seq ?_
        refine Body.seq ?_
        refine Body.region ?_
        refine Ops.u (Dtu.mv (lk rfl)) rfl ?_
        refine Ops.u (Dtu.mv (lk rfl)) rfl ?_
        refine Ops.u (Dtu.bit rfl (lk rfl) (lk rfl) (by with_reducible assumption)) rfl ?_
        refine Ops.u (Dtu.cvt Try.underlying5 Try.underlying3 (lk rfl) (w64 (by omega) (by omega))) rfl ?_
        refine Ops.u (Dtu.lss (lk rfl) (lk rfl)) rfl ?_
        refine Ops.nil ?_
        refine Then.next ?_
        refine Body.condP (lk rfl) (fun _ => ?_) (fun hn => absurd (by first | omega | assumption | decide) hn)
        refine Body.skip ?_
        refine Then.next ?_
        refine Body.seq ?_
        refine Body.block ?_
        refine Body.region ?_
        refine Ops.u (Dtu.mv (lk rfl)) rfl ?_
        refine Ops.s (Stp.callOwn [2] rfl rfl Try.call45 (lks rfl) (fun E' le hat => next_s E' _ _ (by first | with_reducible assumption | omega | assumption)) ?_) rfl
        rintro _ _ ⟨na90, nc90, rfl, rfl⟩
        refine Ops.nil ?_
        refine Blk.norm ?_
        refine Then.next ?_
        refine Body.region ?_
        refine Ops.u (Dtu.mv (lk rfl)) rfl ?_
        refine Ops.u (Dtu.add (lk rfl) (lk rfl) (w64 (by omega) (by omega))) rfl ?_
        refine Ops.u (Dtu.asg (lk rfl)) rfl ?_
        refine Ops.nil ?_
        refine Round.goL [2, 2, 0, 1] (k + 1, (z.wp p).nxt + 1) rfl ⟨rfl, trivial⟩ rfl rfl hlt (by dsimp only; omega)
      · refine Body.seq ?_
        refine Body.seq ?_
        refine Body.region ?_
        refine Ops.u (Dtu.mv (lk rfl)) rfl ?_
        refine Ops.u (Dtu.mv (lk rfl)) rfl ?_
        refine Ops.u (Dtu.bit rfl (lk rfl) (lk rfl) (by with_reducible assumption)) rfl ?_
        refine Ops.u (Dtu.cvt Try.underlying5 Try.underlying3 (lk rfl) (w64 (by omega) (by omega))) rfl ?_
        refine Ops.u (Dtu.lss (lk rfl) (lk rfl)) rfl ?_
        refine Ops.nil ?_
        refine Then.next ?_
        refine Body.condP (lk rfl) (fun _ => ?_) (fun hn => absurd (by first | omega | assumption | decide) hn)
        refine Body.skip ?_
        refine Then.next ?_
        refine Body.seq ?_
        refine Body.block ?_
        refine Body.region ?_
        refine Ops.u (Dtu.mv (lk rfl)) rfl ?_
        refine Ops.s (Stp.callOwn [2] rfl rfl Try.call45 (lks rfl) (fun E' le hat => next_sn E' _ _ (by first | with_reducible assumption | omega | assumption)) ?_) rfl
        rintro _ _ ⟨rfl, rfl⟩
        refine Ops.nil ?_
        refine Blk.norm ?_
        refine Then.next ?_
        refine Body.region ?_
        refine Ops.u (Dtu.mv (lk rfl)) rfl ?_
        refine Ops.u (Dtu.add (lk rfl) (lk rfl) (w64 (by omega) (by omega))) rfl ?_
        refine Ops.u (Dtu.asg (lk rfl)) rfl ?_
        refine Ops.nil ?_
        refine Round.goL [1, 1, 0, 0] (k + 1, p) rfl ⟨rfl, trivial⟩ rfl rfl hlt (by dsimp only; omega)
    · refine Body.seq ?_
      refine Body.seq ?_
      refine Body.region ?_
      refine Ops.u (Dtu.mv (lk rfl)) rfl ?_
      refine Ops.u (Dtu.mv (lk rfl)) rfl ?_
      refine Ops.u (Dtu.bit rfl (lk rfl) (lk rfl) (by with_reducible assumption)) rfl ?_
      refine Ops.u (Dtu.cvt Try.underlying5 Try.underlying3 (lk rfl) (w64 (by omega) (by omega))) rfl ?_
      refine Ops.u (Dtu.lss (lk rfl) (lk rfl)) rfl ?_
      refine Ops.nil ?_
      refine Then.next ?_
      refine Body.condP (lk rfl) (fun hy => absurd hy (by first | omega | assumption | decide)) (fun _ => ?_)
      refine Body.exit ?_
      refine Then.exit ?_
      refine Round.exit ?_
      refine Blk.here ?_
      refine Joint.goL [0, 0, 0, 0] p rfl trivial rfl rfl trivial
  rintro p u1 -
  have I2 : SInv bs (z.wp p) cs := ⟨Snd.wp_ok I.ok p, I.e, I.g, I.k, I.h⟩
  clear hq hq2
  generalize z.wp p = z2 at *
  clear I
  refine Body.seq ?_
  refine Body.region ?_
  refine Ops.u (Dtu.mv (lk rfl)) rfl ?_
  refine Ops.s (Stp.callOwn [2] rfl rfl Try.call51 (lks rfl) (fun E' le hat => left_s E' _ _) ?_) rfl
  rintro _ _ ⟨rfl, rfl⟩
  refine Ops.u (Dtu.asg (lk rfl)) rfl ?_
  refine Ops.nil ?_
  refine Then.next ?_
  refine Body.seq ?_
  refine Body.region ?_
  refine Ops.s (Stp.alloc ty127 (fun b15 => ?_)) rfl
  refine Ops.nil ?_
  refine Then.next ?_
  have hN := I2.n
  have hz := I2.e
  have hlm := Snd.left_miss I2.g
  have hls := Snd.left_st I2.ok I2.g
  subst hz
  have hnc : nCh z2.bs ≤ 64 := by unfold nCh; omega
  have hl64 : z2.left ≤ 64 := by have := miss_le z2.n z2.x; omega
  refine Body.seqL (γ := Nat × List Kc) [0, 1, 2, 4, 6, 7, 8, 9, 11, 14, 15] rfl (fun g => []) (fun g => [(0, own b15 ((cameL (pC z2 g.1)).map Value.bool) 127), (1, sndP nb33 (z2.off g.1)), (3, stoP t42 [kF 5 (⟨#[110]⟩ : ByteArray) z2.bs g.2])]) (fun _ => rfl) (fun _ _ => rfl) (fun g => Have z2.bs g.2 (nCh z2.bs)) ?_ ?_
  · refine Body.seq ?_
    refine Body.region ?_
    refine Ops.u (Dtu.asg (lk rfl)) rfl ?_
    refine Ops.nil ?_
    refine Then.next ?_
    refine Body.block ?_
    refine Body.loopL (γ := Nat × List Kc) [0, 1, 2, 4, 6, 7, 8, 9, 11, 14, 15] rfl (fun g => [(16, .int .i64 (g.1 : Nat))]) (fun g => [(0, own b15 ((cameL (pC z2 g.1)).map Value.bool) 127), (1, sndP nb33 (z2.off g.1)), (3, stoP t42 [kF 5 (⟨#[110]⟩ : ByteArray) z2.bs g.2])]) (fun _ => rfl) (fun _ _ => rfl) (fun g => g.1 ≤ z2.left ∧ Kept z2.bs g.2 ∧ ∀ j, j < nCh z2.bs → (z2.x.testBit j = true ∨ pC z2 g.1 j = true) → cget g.2 (j : Nat) = some (kcOf z2.bs j)) (fun g => z2.left - g.1) ((0, cs)) (⟨Nat.zero_le _, I2.k, fun j hj h => by rcases h with h | h; exact I2.h j hj h; cases h⟩) ⟨rfl, trivial⟩ rfl ?_
    rintro ⟨i, cs⟩ u2 ⟨hi1, hK, hH⟩
    dsimp only at hi1 hK hH ⊢
    by_cases hlt : i < z2.left
    · have hst : z2.st = 0 := Snd.st_g I2.g fun h => by have := hls.2 h; omega
      have hcm := Snd.cy_mem (z := z2) (by omega) i
      have hcn : z2.cy i < nCh z2.bs := by have := (missM.1 hcm).1; omega
      have hc64 : z2.cy i < 64 := by omega
      have hno : pC z2 i (z2.cy i) = false := by
        rw [Bool.eq_false_iff]
        intro h
        obtain ⟨k, h1, h2⟩ := pC_iff.1 h
        have := Snd.cy_inj (by omega) (by omega) h2
        omega
      have hat := cameL_at (pC z2 i) hc64
      rw [hno] at hat
      have hput : PutC ((cameL (pC z2 i)).map Value.bool) (z2.cy i) [.bool true] ((cameL (pC z2 (i + 1))).map Value.bool) := cameL_put (pC z2 i) hc64
      have hnext : ∀ j, j < nCh z2.bs → (z2.x.testBit j = true ∨ pC z2 (i + 1) j = true) → cget (cput cs (kcOf z2.bs (z2.cy i))) (j : Nat) = some (kcOf z2.bs j) := fun j hj h => kc_put fun e => hH j hj (by
        rcases h with h | h
        · exact .inl h
        · right
          simp only [pC, Bool.or_eq_true, beq_iff_eq] at h
          exact h.resolve_left e)
      refine Body.seq ?_
      refine Body.seq ?_
      refine Body.region ?_
      refine Ops.u (Dtu.mv (lk rfl)) rfl ?_
      refine Ops.u (Dtu.mv (lk rfl)) rfl ?_
      refine Ops.u (Dtu.lss (lk rfl) (lk rfl)) rfl ?_
      refine Ops.nil ?_
      refine Then.next ?_
      refine Body.condP (lk rfl) (fun _ => ?_) (fun hn => absurd (by first | omega | assumption | decide) hn)
      refine Body.skip ?_
      refine Then.next ?_
      refine Body.seq ?_
      refine Body.block ?_
      refine Body.seq ?_
      refine Body.region ?_
      refine Ops.u (Dtu.mv (lk rfl)) rfl ?_
      refine Ops.s (Stp.callOwn [1] rfl rfl Try.call45 (lks rfl) (fun E' le hat => next_k E' _ _ _ (by first | with_reducible assumption | omega | assumption)) ?_) rfl
      rintro _ _ ⟨na100, nc100, rfl, rfl⟩
      refine Ops.u (Dtu.mv (lk rfl)) rfl ?_
      refine Ops.u (Dtu.ext (lk rfl) rfl) rfl ?_
      refine Ops.u (Dtu.ext (lk rfl) rfl) rfl ?_
      refine Ops.u (Dtu.ext (lk rfl) rfl) rfl ?_
      refine Ops.u (Dtu.asg (lk rfl)) rfl ?_
      refine Ops.u (Dtu.asg (lk rfl)) rfl ?_
      refine Ops.u (Dtu.asg (lk rfl)) rfl ?_
      refine Ops.nil ?_
      refine Then.next ?_
      refine Body.seq ?_
      refine Body.seq ?_
      refine Body.region ?_
      refine Ops.u (Dtu.mv (lk rfl)) rfl ?_
      refine Ops.u (Dtu.not (lk rfl)) rfl ?_
      refine Ops.u (Dtu.mv (lk rfl)) rfl ?_
      refine Ops.gu rfl rfl rfl (Dtu.mv (lk rfl)) rfl ?_
      refine Ops.gu rfl rfl rfl (Dtu.lss (lk rfl) (lk rfl)) rfl ?_
      refine Ops.u (Dtu.pickF (lk rfl) (lk rfl)) rfl ?_
      refine Ops.u (Dtu.mv (lk rfl)) rfl ?_
      refine Ops.decP 110 rfl (fun hy => absurd hy (by first | omega | assumption | decide)) (fun _ => ?_)
      refine Ops.gu rfl rfl rfl (Dtu.mv (lk rfl)) rfl ?_
      refine Ops.gu rfl rfl rfl (Dtu.geq (lk rfl) (lk rfl)) rfl ?_
      refine Ops.u (Dtu.pickF (lk rfl) (lk rfl)) rfl ?_
      refine Ops.u (Dtu.mv (lk rfl)) rfl ?_
      refine Ops.decP 114 rfl (fun hy => absurd hy (by first | omega | assumption | decide)) (fun _ => ?_)
      refine Ops.gu rfl rfl rfl (Dtu.mv (lk rfl)) rfl ?_
      refine Ops.gu rfl rfl rfl (Dtu.ixa (i := (z2.cy i)) Try.underlying127 Try.sizeOf4 (lk rfl) (lk rfl) (by omega) (by omega)) rfl ?_
      refine Ops.gd rfl rfl rfl (Det.ld Try.isAgg4 (lk rfl) (Rd.ow 2 rfl (cellEq hat (by omega)))) rfl ?_
      refine Ops.u (Dtu.pickF (lk rfl) (lk rfl)) rfl ?_
      refine Ops.u (Dtu.mv (lk rfl)) rfl ?_
      refine Ops.gu rfl rfl rfl (Dtu.mv (lk rfl)) rfl ?_
      refine Ops.gu rfl rfl rfl (Dtu.mv (lk rfl)) rfl ?_
      refine Ops.gu rfl rfl rfl (Dtu.mv (lk rfl)) rfl ?_
      refine Ops.gs rfl rfl rfl (Stp.callOwn [4] rfl rfl Try.call68 (lks rfl) (fun E' le hat => writeK E' _ 5 _ z2.bs _ _ _ (by first | exact Sl.mono (by assumption) le | exact Sl.hatI hat 0 rfl | exact Sl.hatI hat 1 rfl | exact Sl.hatI hat 2 rfl | exact Sl.hatI hat 3 rfl | exact Sl.hatI hat 4 rfl | exact Sl.hatI hat 5 rfl | exact Sl.hatI hat 6 rfl | exact Sl.hatI hat 7 rfl | exact Sl.hatI hat 8 rfl | exact Sl.hatI hat 9 rfl | exact Sl.hatI hat 10 rfl | exact Sl.hatI hat 11 rfl | exact Sl.hatI hat 12 rfl | exact Sl.hatI hat 13 rfl | exact Sl.hatI hat 14 rfl | exact Sl.hatI hat 15 rfl | exact Sl.hatW hat 0 rfl | exact Sl.hatW hat 1 rfl | exact Sl.hatW hat 2 rfl | exact Sl.hatW hat 3 rfl | exact Sl.hatW hat 4 rfl | exact Sl.hatW hat 5 rfl | exact Sl.hatW hat 6 rfl | exact Sl.hatW hat 7 rfl | exact Sl.hatW hat 8 rfl | exact Sl.hatW hat 9 rfl) (by assumption) (by assumption) (by assumption)) ?_) rfl
      rintro _ _ ⟨rfl, rfl⟩
      refine Ops.gu rfl rfl rfl (Dtu.neq (lk rfl) (lk rfl)) rfl ?_
      refine Ops.u (Dtu.pickF (lk rfl) (lk rfl)) rfl ?_
      refine Ops.nil ?_
      refine Then.next ?_
      refine Body.condP (lk rfl) (fun hy => absurd hy (by first | omega | assumption | decide)) (fun _ => ?_)
      refine Body.skip ?_
      refine Then.next ?_
      refine Body.region ?_
      refine Ops.u (Dtu.mv (lk rfl)) rfl ?_
      refine Ops.u (Dtu.ixa (i := (z2.cy i)) Try.underlying127 Try.sizeOf4 (lk rfl) (lk rfl) (by omega) (by omega)) rfl ?_
      refine Ops.e (Stp.storeC 3 hput (by omega) Try.sizeOf4 (lk rfl) (lk rfl) rfl rfl rfl rfl rfl ?_)
      refine Ops.nil ?_
      refine Blk.norm ?_
      refine Then.next ?_
      refine Body.region ?_
      refine Ops.u (Dtu.mv (lk rfl)) rfl ?_
      refine Ops.u (Dtu.add (lk rfl) (lk rfl) (w64 (by omega) (by omega))) rfl ?_
      refine Ops.u (Dtu.asg (lk rfl)) rfl ?_
      refine Ops.nil ?_
      refine Round.goL [3, 1, 2, 0, 1] (i + 1, cput cs (kcOf z2.bs (z2.cy i))) rfl ⟨rfl, trivial⟩ rfl rfl ⟨hlt, hK.put hcn, hnext⟩ (by dsimp only; omega)
    · have hall : Have z2.bs cs (nCh z2.bs) := fun j hj => by
        cases hb : z2.x.testBit j with
        | true => exact hH j hj (.inl hb)
        | false =>
          obtain ⟨k, h1, h2⟩ := Snd.cy_all (missM.2 ⟨by rw [hN]; exact hj, hb⟩)
          exact hH j hj (.inr (pC_iff.2 ⟨k, by omega, h2⟩))
      refine Body.seq ?_
      refine Body.seq ?_
      refine Body.region ?_
      refine Ops.u (Dtu.mv (lk rfl)) rfl ?_
      refine Ops.u (Dtu.mv (lk rfl)) rfl ?_
      refine Ops.u (Dtu.lss (lk rfl) (lk rfl)) rfl ?_
      refine Ops.nil ?_
      refine Then.next ?_
      refine Body.condP (lk rfl) (fun hy => absurd hy (by first | omega | assumption | decide)) (fun _ => ?_)
      refine Body.exit ?_
      refine Then.exit ?_
      refine Round.exit ?_
      refine Blk.here ?_
      refine Joint.goL [0, 0, 0, 0, 0] (i, cs) rfl trivial rfl rfl hall
  rintro ⟨i, cs⟩ u2 hall
  dsimp only at hall ⊢
  have hw := kF_whole (id := 5) (nm := (⟨#[110]⟩ : ByteArray)) hlb4 hall
  have okf : (z2.off i).Ok := Snd.wp_ok I2.ok _
  have hgf : (z2.off i).gone = false := I2.g
  have hnf : (z2.off i).n = nCh z2.bs := hN
  obtain ⟨k1, k2, k3, k4⟩ := Snd.know_all okf hgf
  rw [hnf] at k1 k2 k3 k4
  have k5 : askF (bmR (nCh z2.bs : Nat) ((2 ^ nCh z2.bs - 1 : Nat) : Int)) (nCh z2.bs : Nat) (z2.off i).n (z2.off i).gone = 0 := by rw [hnf]; exact k1
  have k6 : ¬ ((z2.off i).know (nCh z2.bs : Nat) ((2 ^ nCh z2.bs - 1 : Nat) : Int)).st = 0 := by rw [k2]; decide
  have k7 : (if ((z2.off i).know (nCh z2.bs : Nat) ((2 ^ nCh z2.bs - 1 : Nat) : Int)).st = 0 then (0 : Int) else 7) = 7 := if_neg k6
  obtain ⟨hu9, hr9⟩ := bits_u (k := nCh z2.bs) (n := nCh z2.bs) (x := 2 ^ nCh z2.bs - 1) (by have := Nat.one_le_two_pow (n := nCh z2.bs); omega) (Nat.le_refl _) hnc
  have hne : ¬ ((strOfNums z2.bs).toList ≠ (strOfNums z2.bs).toList) := fun h => h rfl
  refine Body.seq ?_
  refine Body.region ?_
  refine Ops.u (Dtu.mv (lk rfl)) rfl ?_
  refine Ops.s (Stp.call rfl Try.call69 (lks rfl) (fun E' le hat => wholeK E' _ _ _ _ _ _ _ (by first | exact At.mono (by assumption) le | exact hat _ (.head _) | exact hat _ (.tail _ (.head _)) | exact hat _ (.tail _ (.tail _ (.head _))) | exact hat _ (.tail _ (.tail _ (.tail _ (.head _)))) | exact hat _ (.tail _ (.tail _ (.tail _ (.tail _ (.head _))))) | exact hat _ (.tail _ (.tail _ (.tail _ (.tail _ (.tail _ (.head _)))))) | exact hat _ (.tail _ (.tail _ (.tail _ (.tail _ (.tail _ (.tail _ (.head _))))))) | exact hat _ (.tail _ (.tail _ (.tail _ (.tail _ (.tail _ (.tail _ (.tail _ (.head _)))))))) | exact hat _ (.tail _ (.tail _ (.tail _ (.tail _ (.tail _ (.tail _ (.tail _ (.tail _ (.head _))))))))) | exact hat _ (.tail _ (.tail _ (.tail _ (.tail _ (.tail _ (.tail _ (.tail _ (.tail _ (.tail _ (.head _))))))))))) (by assumption)) ?_) rfl
  rintro _ _ ⟨wa130, wc130, rfl, rfl⟩
  refine Ops.u (Dtu.mv (lk rfl)) rfl ?_
  refine Ops.u (Dtu.ext (lk rfl) rfl) rfl ?_
  refine Ops.u (Dtu.ext (lk rfl) rfl) rfl ?_
  refine Ops.u (Dtu.asg (lk rfl)) rfl ?_
  refine Ops.u (Dtu.asg (lk rfl)) rfl ?_
  refine Ops.nil ?_
  refine Then.next ?_
  refine Body.seq ?_
  refine Body.region ?_
  refine Ops.u (Dtu.mv (lk rfl)) rfl ?_
  refine Ops.s (Stp.call rfl Try.call71 (lks rfl) (fun E' le hat => mapF E' _ _ _ _ _ (by first | exact At.mono (by assumption) le | exact hat _ (.head _) | exact hat _ (.tail _ (.head _)) | exact hat _ (.tail _ (.tail _ (.head _))) | exact hat _ (.tail _ (.tail _ (.tail _ (.head _)))) | exact hat _ (.tail _ (.tail _ (.tail _ (.tail _ (.head _))))) | exact hat _ (.tail _ (.tail _ (.tail _ (.tail _ (.tail _ (.head _)))))) | exact hat _ (.tail _ (.tail _ (.tail _ (.tail _ (.tail _ (.tail _ (.head _))))))) | exact hat _ (.tail _ (.tail _ (.tail _ (.tail _ (.tail _ (.tail _ (.tail _ (.head _)))))))) | exact hat _ (.tail _ (.tail _ (.tail _ (.tail _ (.tail _ (.tail _ (.tail _ (.tail _ (.head _))))))))) | exact hat _ (.tail _ (.tail _ (.tail _ (.tail _ (.tail _ (.tail _ (.tail _ (.tail _ (.tail _ (.head _))))))))))) (by assumption) (by assumption)) ?_) rfl
  rintro _ _ ⟨rfl, rfl⟩
  refine Ops.u (Dtu.mv (lk rfl)) rfl ?_
  refine Ops.u (Dtu.ext (lk rfl) rfl) rfl ?_
  refine Ops.u (Dtu.ext (lk rfl) rfl) rfl ?_
  refine Ops.s (Stp.alloc ty86 (fun b22 => ?_)) rfl
  refine Ops.e (Stp.store 0 Try.sizeOf86 (lk rfl) (lk rfl) rfl rfl rfl rfl rfl rfl rfl ?_)
  refine Ops.u (Dtu.asg (lk rfl)) rfl ?_
  refine Ops.nil ?_
  refine Then.next ?_
  refine Body.seq ?_
  refine Body.seq ?_
  refine Body.region ?_
  refine Ops.u (Dtu.mv (lk rfl)) rfl ?_
  refine Ops.u (Dtu.neq (lk rfl) (lk rfl)) rfl ?_
  refine Ops.u (Dtu.mv (lk rfl)) rfl ?_
  refine Ops.decP 140 rfl (fun hy => absurd hy (by first | omega | assumption | decide)) (fun _ => ?_)
  refine Ops.gu rfl rfl rfl (Dtu.mv (lk rfl)) rfl ?_
  refine Ops.gd rfl rfl rfl (Det.bstr Try.underlying73 Try.underlying5 Try.underlying9 (lk rfl) (Sl.osl 1 rfl)) rfl ?_
  refine Ops.gu rfl rfl rfl (Dtu.mv (lk rfl)) rfl ?_
  refine Ops.gd rfl rfl rfl (Det.bstr Try.underlying73 Try.underlying5 Try.underlying9 (lk rfl) (Sl.up hs)) rfl ?_
  refine Ops.gu rfl rfl rfl (Dtu.neStr (lk rfl) (lk rfl)) rfl ?_
  refine Ops.u (Dtu.pickF (lk rfl) (lk rfl)) rfl ?_
  refine Ops.u (Dtu.mv (lk rfl)) rfl ?_
  refine Ops.decP 147 rfl (fun hy => absurd hy (by first | omega | assumption | decide)) (fun _ => ?_)
  refine Ops.gu rfl rfl rfl (Dtu.mv (lk rfl)) rfl ?_
  refine Ops.gu rfl rfl rfl (Dtu.neq (lk rfl) (lk rfl)) rfl ?_
  refine Ops.u (Dtu.pickF (lk rfl) (lk rfl)) rfl ?_
  refine Ops.u (Dtu.mv (lk rfl)) rfl ?_
  refine Ops.decP 151 rfl (fun hy => absurd hy (by first | omega | assumption | decide)) (fun _ => ?_)
  refine Ops.gu rfl rfl rfl (Dtu.mv (lk rfl)) rfl ?_
  refine Ops.gd rfl rfl rfl (Det.lda Try.isAgg86 Try.sizeOf86 (lk rfl) (Rds.ow (m := 2) 0 rfl rfl) rfl) rfl ?_
  refine Ops.gs rfl rfl rfl (Stp.callOwn [3] rfl rfl Try.call46 (lks rfl) (fun E' le hat => know_s E' _ _ _ _ (by first | with_reducible assumption | omega | assumption)) ?_) rfl
  rintro _ _ ⟨rfl, rfl⟩
  refine Ops.gu rfl rfl rfl (Dtu.neq (lk rfl) (lk rfl)) rfl ?_
  refine Ops.u (Dtu.pickF (lk rfl) (lk rfl)) rfl ?_
  refine Ops.nil ?_
  refine Then.next ?_
  refine Body.condP (lk rfl) (fun hy => absurd hy (by first | omega | assumption | decide)) (fun _ => ?_)
  refine Body.skip ?_
  refine Then.next ?_
  refine Body.seq ?_
  refine Body.region ?_
  refine Ops.u (Dtu.mv (lk rfl)) rfl ?_
  refine Ops.s (Stp.callOwn [0] rfl rfl Try.call45 (lks rfl) (fun E' le hat => next_sn E' _ _ (by first | with_reducible assumption | omega | assumption)) ?_) rfl
  rintro _ _ ⟨rfl, rfl⟩
  refine Ops.u (Dtu.mv (lk rfl)) rfl ?_
  refine Ops.u (Dtu.ext (lk rfl) rfl) rfl ?_
  refine Ops.u (Dtu.ext (lk rfl) rfl) rfl ?_
  refine Ops.u (Dtu.ext (lk rfl) rfl) rfl ?_
  refine Ops.u (Dtu.asg (lk rfl)) rfl ?_
  refine Ops.u (Dtu.asg (lk rfl)) rfl ?_
  refine Ops.u (Dtu.asg (lk rfl)) rfl ?_
  refine Ops.nil ?_
  refine Then.next ?_
  refine Body.seq ?_
  refine Body.region ?_
  refine Ops.s (Stp.call rfl Try.call36 (lks rfl) (fun E' le hat => alive26_ok E') ?_) rfl
  rintro _ _ ⟨rfl, rfl⟩
  refine Ops.u (Dtu.mv (lk rfl)) rfl ?_
  refine Ops.gu rfl rfl rfl (Dtu.mv (lk rfl)) rfl ?_
  refine Ops.gu rfl rfl rfl (Dtu.not (lk rfl)) rfl ?_
  refine Ops.u (Dtu.pickT (lk rfl) (lk rfl)) rfl ?_
  refine Ops.u (Dtu.mv (lk rfl)) rfl ?_
  refine Ops.gu rfl rfl rfl (Dtu.mv (lk rfl)) rfl ?_
  refine Ops.gs rfl rfl rfl (Stp.callOwn [0] rfl rfl Try.call51 (lks rfl) (fun E' le hat => left_s E' _ _) ?_) rfl
  rintro _ _ ⟨rfl, rfl⟩
  refine Ops.gu rfl rfl rfl (Dtu.eql (lk rfl) (lk rfl)) rfl ?_
  refine Ops.u (Dtu.pickT (lk rfl) (lk rfl)) rfl ?_
  refine Ops.u (Dtu.mv (lk rfl)) rfl ?_
  refine Ops.decP 173 rfl (fun _ => ?_) (fun hn => absurd (by first | omega | assumption | decide) hn)
  refine Ops.gu rfl rfl rfl (Dtu.mv (lk rfl)) rfl ?_
  refine Ops.gs rfl rfl rfl (Stp.callOwn [0] rfl rfl Try.call53 (lks rfl) (fun E' le hat => state_s E' _ _) ?_) rfl
  rintro _ _ ⟨rfl, rfl⟩
  refine Ops.gu rfl rfl rfl (Dtu.eql (lk rfl) (lk rfl)) rfl ?_
  refine Ops.u (Dtu.pickT (lk rfl) (lk rfl)) rfl ?_
  refine Ops.u (Dtu.mv (lk rfl)) rfl ?_
  refine Ops.decP 178 rfl (fun _ => ?_) (fun hn => absurd (by first | omega | assumption | decide) hn)
  refine Ops.gu rfl rfl rfl (Dtu.mv (lk rfl)) rfl ?_
  refine Ops.gs rfl rfl rfl (Stp.callOwn [0] rfl rfl Try.call49 (lks rfl) (fun E' le hat => cancel_s E' _ _) ?_) rfl
  rintro _ _ ⟨rfl, rfl⟩
  refine Ops.gu rfl rfl rfl (Dtu.eql (lk rfl) (lk rfl)) rfl ?_
  refine Ops.u (Dtu.pickT (lk rfl) (lk rfl)) rfl ?_
  refine Ops.u (Dtu.asg (lk rfl)) rfl ?_
  refine Ops.nil ?_
  refine Then.next ?_
  refine Body.ret ?_
  exact ⟨.inr rfl, _, pk [] rfl, congrArg Value.bool (decide_eq_true k7), rfl⟩
end Go.Proofs.Ytpmapedhigjalaa
end
section
/- Arguments of FileSends. -/
end
section
/- 'Rows.FileSendsSaid': longlinelaw26.FileSends returns true, whatever bytes, map and number come in; they read as they did. -/
namespace Go.Proofs.Ytpmapedhigjalaa.fileSends
open Go.Sx Go.ChangeShapes Go.WideShapes Go.ChangeAt Go.RowKit
set_option linter.unusedVariables false

theorem own : ownKnob Try.prog.godebug = none := by kernel_rfl
theorem laidOut : laidOutB Try.prog = true := by kernel_rfl
theorem pars : (Try.f11.params.toList.all fun t => Try.prog.readableRec t && decide (t < Try.prog.types.size)) = true := by kernel_rfl

set_option maxRecDepth 100000 in
theorem lifted (os : Os) (started : os.Started) (H : Type) (enc : TypeId × Value → H) :
    ReturnsInHanded {} Try.checked os 11 .any (Rows.fileSendsSpec.pre6 enc Try.prog Try.f11 Rows.fileSendsRow.domain false) (Rows.fileSendsSpec.post enc Try.prog Try.f11 false true false false) := by
  refine returnsInHanded_of_change (C := Try.checked) own started (by kernel_rfl) Try.func11
    (ChangeSpec.witness6 (enc := enc) (C := Try.checked) false ⟨#[], #[.slice none 0 0, .agg #[.int .i64 0, .int .u64 0], .int .u8 0], []⟩ 8 (by kernel_rfl) (by kernel_rfl) (by kernel_rfl) (by kernel_rfl)) ?_
  intro W base args ds gs before hval0 hW hcnd _
  have hval : ∀ (j : Nat) t v, Try.f11.params[j]? = some t → args[j]? = some v → Value.okWide Try.prog W .any base t v := hval0
  have hW' := hW
  obtain ⟨p, q, hA0, hV, rfl, hfz, hnd⟩ := hW
  have hA : DataW.TrodAll enc Try.prog W 0 (fun _ => true) true Try.f11.params.toList args.toList ds p := hA0
  rw [Try.params11] at hA hval
  obtain ⟨v0, vs0, d0, ds0, p0, q0, hargs, rfl, rfl, h0, r0⟩ := trodAll_cons hA
  obtain ⟨v1, vs1, d1, ds1, p1, q1, rfl, rfl, rfl, h1, r1⟩ := trodAll_cons r0
  obtain ⟨v2, vs2, d2, ds2, p2, q2, rfl, rfl, rfl, h2, r2⟩ := trodAll_cons r1
  obtain ⟨rfl, rfl, rfl⟩ := trodAll_nil r2
  obtain rfl : args = #[v0, v1, v2] := by cases args; simp_all
  obtain ⟨a, ln, cp, rfl⟩ := okWide_slice Try.underlying73 (hval 0 73 v0 rfl rfl)
  obtain ⟨n0, h0'⟩ := h0
  obtain ⟨b, bs, eb, hb, hbt⟩ := trod_bytes (cs := [.slice a ln cp]) h0'
  obtain rfl : Value.slice a ln cp = b := by simpa using eb
  obtain ⟨n, y, rfl, hy⟩ := open_map (hval 1 86 v1 rfl rfl) h1
  obtain ⟨y5, rfl⟩ := okWide_int Try.underlying5 (hval 2 5 v2 rfl rfl)
  obtain ⟨n5, h5'⟩ := h2
  obtain ⟨a5, e5, _, w5⟩ := DataW.trod_int Try.underlying5 h5'
  have b5 := bounds_u8 w5
  obtain rfl : y5 = a5 := by have e1 : [Value.int .u8 y5] = [Value.int .u8 a5] := e5; simpa using e1
  refine (sends26_ok (envOf W) _ bs n y y5 hb hbt hy (by omega) W St.all).mono ?_
  rintro e W' ⟨r, H', rfl, ⟨rfl, rfl⟩, s'⟩
  refine ⟨_, rfl, post_of_below (tb := 4) rfl rfl rfl Try.underlying4 laidOut (fun t ht => ?_) hW' (below_of_St s')⟩
  · have := List.all_eq_true.1 pars t ht
    rw [Bool.and_eq_true, decide_eq_true_eq] at this
    exact this

theorem over : Rows.fileSendsRow.holds Try.pinned (OpenSpec.ofChange Rows.fileSendsSpec) :=
  OpenClaim.holds_of_wide 11 Try.f11 rfl rfl rfl rfl rfl rfl rfl ⟨rfl, rfl, rfl, rfl, rfl⟩ rfl rfl rfl rfl rfl (by kernel_rfl) Try.func11 (by kernel_rfl)
    (of_decide_eq_true (by kernel_rfl)) (by unfold Func.isWrapper; first | (rw [if_pos (by decide +kernel)]; kernel_rfl) | (rw [if_neg (by decide +kernel)]; exact ⟨rfl, rfl⟩))
    (fun os started H enc _ => lifted os started H enc)

theorem proved : Rows.FileSendsSaid := over
end Go.Proofs.Ytpmapedhigjalaa.fileSends
end
