/- Qapplies: OpenD, PatN, OpenI, AppliesP. -/
import Derived.Test.YtijjjdljdjnbaaaQa
import Derived.Test.YtijjjdljdjnbaaaQb
import Derived.Test.YtijjjdljdjnbaaaQc
import Derived.Test.YtijjjdljdjnbaaaQd
import Derived.Test.YtijjjdljdjnbaaaQe
import Derived.Test.YtijjjdljdjnbaaaQf
import Derived.Test.YtijjjdljdjnbaaaQg
import Derived.Test.YtijjjdljdjnbaaaQh
import Derived.Test.YtijjjdljdjnbaaaQi
import Derived.Test.YtijjjdljdjnbaaaQj
section
/- Views and bytes as arguments, for the document's walk. -/
namespace Go.Proofs.Ytijjjdljdjnbaaa
open Go.Sx

theorem Cell.In32.Cols {c : Cell} (h : c.In32) : c.Cols := ⟨h.1.2.2.1, h.1.2.2.2.1, h.1.2.2.2.2.1, h.1.2.2.2.2.2⟩
end Go.Proofs.Ytijjjdljdjnbaaa
end
section
/- PatchApplies: what it computes. -/
namespace Go.Proofs.Ytijjjdljdjnbaaa
set_option maxRecDepth 100000
set_option linter.unusedVariables false
set_option linter.unusedSimpArgs false
open Go.Sx

/-- what Apply tells: a view, an error; is there one? -/
def avV (a : View) (bs : List Int) : View := (applyV a bs).getD View.none
def avE (a : View) (bs : List Int) : Int := match applyV a bs with
  | some _ => 0
  | none => 3
def avK (a : View) (bs : List Int) : Bool := (applyV a bs).isSome
theorem apply_any (E : Env) (a : View) (s b : Value) (bs : List Int) (ha : a.has E [] s) (h : Sl E [] 1 b bs.length (bs.map (.int .u8))) (hb : Byt bs) (hmax : bs.length ≤ 100000) (hfl : ∀ c ∈ a.cells, c.Fl) : Does Try.prog 20 #[a.val s, b] E [] fun r H' => ∃ (z1 : Option Addr) (z2 z3 : Nat), r = .tuple #[(avV a bs).val (.slice z1 z2 z3), .int .i64 (avE a bs)] ∧ H' = [osl 55 4 (.slice z1 z2 z3) (avV a bs).cells.length ((avV a bs).cells.flatMap Cell.enc)] := by
  have h1 := apply_ok E a s b bs ha h hb hmax hfl
  cases hr : applyV a bs with
  | some v =>
    have e1 : avV a bs = v := by simp [avV, hr]
    have e2 : avE a bs = 0 := by simp [avE, hr]
    rw [e1, e2]
    rw [hr] at h1
    intro w s0
    refine (h1 w s0).mono ?_
    rintro e w' ⟨r, H', he, ⟨s', rfl, rfl⟩, s1⟩
    obtain ⟨z1, m, z3, rfl⟩ := Sl.isSl (Sl.osl (H := [osl 55 4 s' v.cells.length (v.cells.flatMap Cell.enc)]) 0 rfl) w' s1
    exact ⟨_, _, he, ⟨z1, m, z3, rfl, rfl⟩, s1⟩
  | none =>
    have e1 : avV a bs = View.none := by simp [avV, hr]
    have e2 : avE a bs = 3 := by simp [avE, hr]
    rw [e1, e2]
    rw [hr] at h1
    intro w s0
    refine (h1 w s0).mono ?_
    rintro e w' ⟨r, H', he, ⟨rfl, rfl⟩, s1⟩
    exact ⟨_, _, he, ⟨none, 0, 0, rfl, rfl⟩, osl_nil s1⟩
theorem rapply_any (E : Env) (a : View) (s b : Value) (bs : List Int) (ha : a.rhas E [] s) (h : Sl E [] 1 b bs.length (bs.map (.int .u8))) (hb : Byt bs) (hmax : bs.length ≤ 100000) (hfl : ∀ c ∈ a.cells, c.Fl) (hcs : ∀ c ∈ a.cells, c.Cols) : Does Try.prog 21 #[a.val s, b] E [] fun r H' => ∃ (z1 : Option Addr) (z2 z3 : Nat), r = .tuple #[(avV a bs).val (.slice z1 z2 z3), .bool (avK a bs)] ∧ H' = [osl 65 11 (.slice z1 z2 z3) (avV a bs).cells.length ((avV a bs).cells.flatMap Cell.renc)] := by
  have h1 := rapply_ok E a s b bs ha h hb hmax hfl hcs
  cases hr : applyV a bs with
  | some v =>
    have e1 : avV a bs = v := by simp [avV, hr]
    have e2 : avK a bs = true := by simp [avK, hr]
    rw [e1, e2]
    rw [hr] at h1
    intro w s0
    refine (h1 w s0).mono ?_
    rintro e w' ⟨r, H', he, ⟨s', rfl, rfl⟩, s1⟩
    obtain ⟨z1, m, z3, rfl⟩ := Sl.isSl (Sl.osl (H := [osl 65 11 s' v.cells.length (v.cells.flatMap Cell.renc)]) 0 rfl) w' s1
    exact ⟨_, _, he, ⟨z1, m, z3, rfl, rfl⟩, s1⟩
  | none =>
    have e1 : avV a bs = View.none := by simp [avV, hr]
    have e2 : avK a bs = false := by simp [avK, hr]
    rw [e1, e2]
    rw [hr] at h1
    intro w s0
    refine (h1 w s0).mono ?_
    rintro e w' ⟨r, H', he, ⟨rfl, rfl⟩, s1⟩
    exact ⟨_, _, he, ⟨none, 0, 0, rfl, rfl⟩, osl_nil s1⟩
theorem avV_fl {a : View} {bs : List Int} (hb : Byt bs) (hfl : ∀ c ∈ a.cells, c.Fl) : ∀ c ∈ (avV a bs).cells, c.Fl := by
  unfold avV applyV
  cases hr : runsP bs with
  | none => simp [View.none]
  | some rs =>
    dsimp only
    split
    · simp [View.none]
    · split
      · exact applyL_fl rs _ 0 (baseC_fl hfl _ _) (runsP_fine hb hr)
      · simp [View.none]
theorem avV_len {a : View} {bs : List Int} : (avV a bs).cells.length ≤ 480 := by
  cases hr : applyV a bs with
  | none => simp [avV, hr, View.none]
  | some v =>
    have hv : v.ok = true := by
      unfold applyV at hr
      cases hr2 : runsP bs with
      | none => rw [hr2] at hr; cases hr
      | some rs =>
        rw [hr2] at hr
        dsimp only at hr
        split at hr
        · cases hr
        · split at hr
          · rename_i h; simp only [Option.some.injEq] at hr; rw [← hr]; exact h.1
          · cases hr
    have := ok_480 hv
    simp only [avV, hr, Option.getD_some]; omega
theorem avE_K (a : View) (bs : List Int) : decide (avE a bs = 0) = avK a bs := by
  cases hr : applyV a bs <;> simp [avE, avK, hr]
theorem runsE_O (bs : List Int) : decide (runsE bs = 0) = runsO bs := by
  cases hr : runsP bs <;> simp [runsE, runsO, hr]
set_option maxHeartbeats 3200000 in
theorem applies_ok (E : Env) (v : View) (s b : Value) (bs : List Int) (hv : v.has E [] s) (hb : Sl E [] 1 b bs.length (bs.map (.int .u8))) (hbt : Byt bs) (fv : ∀ c ∈ v.cells, c.Fl) (gv : ∀ c ∈ v.cells, c.Cols) :
    Does Try.prog 4 #[v.val s, b] E [] fun r H' => r = .bool true ∧ H' = [] := by
  obtain ⟨vr, vc, cells, vo, vl, vv⟩ := v
  unfold View.has at hv
  dsimp only at hv fv gv
  refine Does.pure hv.isSl fun hsl => ?_
  obtain ⟨sa, sm, sc, rfl⟩ := hsl
  have hAf := avV_fl (a := (View.mk vr vc cells vo vl vv)) hbt fv
  have hAl := avV_len (a := (View.mk vr vc cells vo vl vv)) (bs := bs)
  have k1 : ¬ ¬ (avV (View.mk vr vc cells vo vl vv) bs = avV (View.mk vr vc cells vo vl vv) bs) := fun h => h rfl
  have k1' : avV (View.mk vr vc cells vo vl vv) bs = avV (View.mk vr vc cells vo vl vv) bs := rfl
  have k2 : decide (avE (View.mk vr vc cells vo vl vv) bs = 0) = avK (View.mk vr vc cells vo vl vv) bs := avE_K _ _
  have k3 := runsE_O bs
  have k4 : avK (View.mk vr vc cells vo vl vv) bs = false → avE (View.mk vr vc cells vo vl vv) bs = 3 := fun h => by cases hr : applyV (View.mk vr vc cells vo vl vv) bs <;> simp [avK, avE, hr] at h ⊢
  have k5 : runsO bs = false → runsE bs = 3 := fun h => by cases hr : runsP bs <;> simp [runsO, runsE, hr] at h ⊢
  refine Does.go (args := [View.val ⟨vr, vc, cells, vo, vl, vv⟩ (.slice sa sm sc), b]) _ _ Try.func4 rfl Try.ntmps4 rfl rfl ?_
  refine Body.seq ?_
  refine Body.region ?_
  refine Ops.s (Stp.box (lk rfl) rfl (fun b2 => ?_)) rfl
  refine Ops.u (Dtu.asg (lk rfl)) rfl ?_
  refine Ops.nil ?_
  refine Then.next ?_
  refine Body.seq ?_
  refine Body.seq ?_
  refine Body.region ?_
  refine Ops.u (Dtu.fld fa24_2 (lk rfl)) rfl ?_
  refine Ops.d (Det.ld Try.isAgg22 (lk rfl) (Rd.ow 0 rfl rfl)) rfl ?_
  refine Ops.u (Dtu.lenS Try.underlying22 (Sl.up hv) (lk rfl)) rfl ?_
  refine Ops.u (Dtu.gtr (lk rfl) (lk rfl)) rfl ?_
  refine Ops.u (Dtu.mv (lk rfl)) rfl ?_
  refine Ops.decP 17 rfl (fun c17 => ?_) (fun c17 => ?_)
  · refine Ops.gn rfl rfl rfl rfl rfl ?_
    refine Ops.gn rfl rfl rfl rfl rfl ?_
    refine Ops.gn rfl rfl rfl rfl rfl ?_
    refine Ops.u (Dtu.pickT (lk rfl) (lk rfl)) rfl ?_
    refine Ops.nil ?_
    refine Then.next ?_
    refine Body.condT (lk rfl) ?_
    refine Body.seq ?_
    refine Body.region ?_
    refine Ops.s (Stp.call rfl Try.call15 (lks rfl) (fun E' le hat => alive21_ok E') ?_) rfl
    rintro _ _ ⟨rfl, rfl⟩
    refine Ops.u (Dtu.asg (lk rfl)) rfl ?_
    refine Ops.nil ?_
    refine Then.next ?_
    refine Body.ret ?_
    refine Then.ret ?_
    exact ⟨.inr rfl, _, pk [] rfl, rfl, rfl⟩
  · refine Ops.gu rfl rfl rfl (Dtu.mv (lk rfl)) rfl ?_
    refine Ops.gu rfl rfl rfl (Dtu.lenS Try.underlying32 (Sl.up hb) (lk rfl)) rfl ?_
    refine Ops.gu rfl rfl rfl (Dtu.gtr (lk rfl) (lk rfl)) rfl ?_
    refine Ops.u (Dtu.pickF (lk rfl) (lk rfl)) rfl ?_
    refine Ops.nil ?_
    refine Then.next ?_
    refine Body.condP (lk rfl) (fun c21 => ?_) (fun c21 => ?_)
    · refine Body.seq ?_
      refine Body.region ?_
      refine Ops.s (Stp.call rfl Try.call15 (lks rfl) (fun E' le hat => alive21_ok E') ?_) rfl
      rintro _ _ ⟨rfl, rfl⟩
      refine Ops.u (Dtu.asg (lk rfl)) rfl ?_
      refine Ops.nil ?_
      refine Then.next ?_
      refine Body.ret ?_
      refine Then.ret ?_
      exact ⟨.inr rfl, _, pk [] rfl, rfl, rfl⟩
    · refine Body.skip ?_
      refine Then.next ?_
      refine Body.seq ?_
      refine Body.region ?_
      refine Ops.d (Det.lda Try.isAgg24 Try.sizeOf24 (lk rfl) (Rds.ow (m := 6) 0 rfl rfl) rfl) rfl ?_
      refine Ops.u (Dtu.mv (lk rfl)) rfl ?_
      refine Ops.s (Stp.call rfl Try.call20 (lks rfl) (fun E' le hat => apply_any E' (View.mk vr vc cells vo vl vv) _ _ _ (Sl.mono hv le) (Sl.mono hb le) hbt (by omega) fv) ?_) rfl
      rintro _ _ ⟨u1, u2, u3, rfl, rfl⟩
      refine Ops.u (Dtu.mv (lk rfl)) rfl ?_
      refine Ops.u (Dtu.ext (lk rfl) rfl) rfl ?_
      refine Ops.u (Dtu.ext (lk rfl) rfl) rfl ?_
      refine Ops.s (Stp.alloc ty24 (fun b5 => ?_)) rfl
      refine Ops.e (Stp.store 0 Try.sizeOf24 (lk rfl) (lk rfl) rfl rfl rfl rfl rfl rfl rfl ?_)
      refine Ops.u (Dtu.asg (lk rfl)) rfl ?_
      refine Ops.nil ?_
      refine Then.next ?_
      refine Body.seq ?_
      refine Body.region ?_
      refine Ops.d (Det.lda Try.isAgg24 Try.sizeOf24 (lk rfl) (Rds.ow (m := 6) 2 rfl rfl) rfl) rfl ?_
      refine Ops.s (Stp.call rfl Try.call16 (lks rfl) (fun E' le hat => as20_ok E' ⟨_, _, _, _, _, _⟩ _ (Sl.mono (by assumption) le) (by assumption) (by first | assumption | (dsimp only; omega))) ?_) rfl
      rintro _ _ ⟨xa31, xm31, xc31, rfl, rfl⟩
      refine Ops.u (Dtu.mv (lk rfl)) rfl ?_
      refine Ops.s (Stp.call rfl Try.call21 (lks rfl) (fun E' le hat => rapply_any E' (View.mk vr vc cells vo vl vv) _ _ _ (Sl.at (hat _ (.head _))) (Sl.mono hb le) hbt (by omega) fv gv) ?_) rfl
      rintro _ _ ⟨w1, w2, w3, rfl, rfl⟩
      refine Ops.u (Dtu.mv (lk rfl)) rfl ?_
      refine Ops.u (Dtu.ext (lk rfl) rfl) rfl ?_
      refine Ops.u (Dtu.ext (lk rfl) rfl) rfl ?_
      refine Ops.s (Stp.alloc ty30 (fun b7 => ?_)) rfl
      refine Ops.e (Stp.store 0 Try.sizeOf30 (lk rfl) (lk rfl) rfl rfl rfl rfl rfl rfl rfl ?_)
      refine Ops.u (Dtu.asg (lk rfl)) rfl ?_
      refine Ops.nil ?_
      refine Then.next ?_
      refine Body.seq ?_
      refine Body.region ?_
      refine Ops.u (Dtu.mv (lk rfl)) rfl ?_
      refine Ops.s (Stp.call rfl Try.call22 (lks rfl) (fun E' le hat => runsC_ok E' _ _ (by first | exact Sl.mono (by assumption) le | exact Sl.at (hat _ (.head _)) | exact Sl.at (hat _ (.tail _ (.head _))) | exact Sl.at (hat _ (.tail _ (.tail _ (.head _)))) | exact Sl.at (hat _ (.tail _ (.tail _ (.tail _ (.head _))))) | exact Sl.at (hat _ (.tail _ (.tail _ (.tail _ (.tail _ (.head _)))))) | exact Sl.at (hat _ (.tail _ (.tail _ (.tail _ (.tail _ (.tail _ (.head _)))))))) (by assumption) (by first | assumption | omega)) ?_) rfl
      rintro _ _ ⟨rfl, rfl⟩
      refine Ops.u (Dtu.mv (lk rfl)) rfl ?_
      refine Ops.u (Dtu.ext (lk rfl) rfl) rfl ?_
      refine Ops.u (Dtu.ext (lk rfl) rfl) rfl ?_
      refine Ops.u (Dtu.asg (lk rfl)) rfl ?_
      refine Ops.u (Dtu.asg (lk rfl)) rfl ?_
      refine Ops.nil ?_
      refine Then.next ?_
      refine Body.seq ?_
      refine Body.region ?_
      refine Ops.u (Dtu.mv (lk rfl)) rfl ?_
      refine Ops.s (Stp.call rfl Try.call23 (lks rfl) (fun E' le hat => rruns_ok E' _ _ (Sl.mono (by assumption) le) (by assumption) (by first | assumption | omega)) ?_) rfl
      rintro _ _ ⟨rfl, rfl⟩
      refine Ops.u (Dtu.mv (lk rfl)) rfl ?_
      refine Ops.u (Dtu.ext (lk rfl) rfl) rfl ?_
      refine Ops.u (Dtu.ext (lk rfl) rfl) rfl ?_
      refine Ops.u (Dtu.asg (lk rfl)) rfl ?_
      refine Ops.u (Dtu.asg (lk rfl)) rfl ?_
      refine Ops.nil ?_
      refine Then.next ?_
      refine Body.seq ?_
      refine Body.draw mixed ?_
      refine AB.s 0 rfl (by decide +kernel) (by decide +kernel) (Stp.call rfl Try.call15 (lks rfl) (fun E' le hat => alive21_ok E') ?_) rfl
      rintro _ _ ⟨rfl, rfl⟩
      refine AB.u 1 rfl (by decide +kernel) (Dtu.mv (lk rfl)) rfl ?_
      refine AB.gd 2 rfl (by decide +kernel) rfl rfl rfl rfl (Det.lda Try.isAgg24 Try.sizeOf24 (lk rfl) (Rds.ow (m := 6) 3 rfl rfl) rfl) rfl ?_
      refine AB.gd 4 rfl (by decide +kernel) rfl rfl rfl rfl (Det.lda Try.isAgg30 Try.sizeOf30 (lk rfl) (Rds.ow (m := 6) 0 rfl rfl) rfl) rfl ?_
      refine AB.gs 3 rfl (by decide +kernel) (by decide +kernel) rfl rfl rfl (Stp.call rfl Try.call16 (lks rfl) (fun E' le hat => as20_ok E' (avV (View.mk vr vc cells vo vl vv) bs) (.slice u1 u2 u3) (Sl.at (hat _ (.tail _ (.tail _ (.tail _ (.tail _ (.head _))))))) hAf (by omega)) ?_) rfl
      rintro _ _ ⟨ga, gm, gc, rfl, rfl⟩
      skip
      refine AB.gs 5 rfl (by decide +kernel) (by decide +kernel) rfl rfl rfl (Stp.call rfl Try.call24 (lks rfl) (fun E' le hat => rsame_ok E' (avV (View.mk vr vc cells vo vl vv) bs) (avV (View.mk vr vc cells vo vl vv) bs) (.slice ga gm gc) (.slice w1 w2 w3) (Sl.at (hat _ (.head _))) (Sl.at (hat _ (.tail _ (.tail _ (.head _))))) hAf hAf) ?_) rfl
      rintro _ _ ⟨rfl, rfl⟩
      cases hK : avK (View.mk vr vc cells vo vl vv) bs with
      | true =>
        rw [hK] at k2
        cases hO : runsO bs with
        | true =>
          rw [hO] at k3
          refine AB.u 6 rfl (by decide +kernel) (Dtu.pickT (lk rfl) (lk rfl)) rfl ?_
          refine AB.u 7 rfl (by decide +kernel) (Dtu.mv (lk rfl)) rfl ?_
          refine AB.decP 53 rfl (fun _ => ?_) (fun hn => absurd (by first | omega | assumption | decide) hn)
          refine AB.gu 8 rfl (by decide +kernel) rfl rfl rfl (Dtu.mv (lk rfl)) rfl ?_
          refine AB.gu 9 rfl (by decide +kernel) rfl rfl rfl (Dtu.eql (lk rfl) (lk rfl)) rfl ?_
          refine AB.gu 10 rfl (by decide +kernel) rfl rfl rfl (Dtu.mv (lk rfl)) rfl ?_
          refine AB.gu 11 rfl (by decide +kernel) rfl rfl rfl (Dtu.eqB Try.underlying4 (lk rfl) (lk rfl)) rfl ?_
          refine AB.u 12 rfl (by decide +kernel) (Dtu.pickT (lk rfl) (lk rfl)) rfl ?_
          refine AB.u 13 rfl (by decide +kernel) (Dtu.mv (lk rfl)) rfl ?_
          refine AB.decP 59 rfl (fun _ => ?_) (fun hn => absurd (by first | omega | assumption | decide) hn)
          refine AB.gu 14 rfl (by decide +kernel) rfl rfl rfl (Dtu.mv (lk rfl)) rfl ?_
          refine AB.gu 15 rfl (by decide +kernel) rfl rfl rfl (Dtu.mv (lk rfl)) rfl ?_
          refine AB.gn 16 rfl (by decide +kernel) rfl rfl rfl rfl rfl ?_
          refine AB.gn 17 rfl (by decide +kernel) rfl rfl rfl rfl rfl ?_
          refine AB.gu 18 rfl (by decide +kernel) rfl rfl rfl (Dtu.pickT (lk rfl) (lk rfl)) rfl ?_
          refine AB.u 19 rfl (by decide +kernel) (Dtu.pickT (lk rfl) (lk rfl)) rfl ?_
          refine AB.u 20 rfl (by decide +kernel) (Dtu.mv (lk rfl)) rfl ?_
          refine AB.gu 21 rfl (by decide +kernel) rfl rfl rfl (Dtu.mv (lk rfl)) rfl ?_
          refine AB.gu 22 rfl (by decide +kernel) rfl rfl rfl (Dtu.mv (lk rfl)) rfl ?_
          refine AB.gu 23 rfl (by decide +kernel) rfl rfl rfl (Dtu.eql (lk rfl) (lk rfl)) rfl ?_
          refine AB.u 24 rfl (by decide +kernel) (Dtu.pickT (lk rfl) (lk rfl)) rfl ?_
          refine AB.u 25 rfl (by decide +kernel) (Dtu.mv (lk rfl)) rfl ?_
          refine AB.decP 71 rfl (fun _ => ?_) (fun hn => absurd (by first | omega | assumption | decide) hn)
          refine AB.gu 26 rfl (by decide +kernel) rfl rfl rfl (Dtu.mv (lk rfl)) rfl ?_
          refine AB.gu 27 rfl (by decide +kernel) rfl rfl rfl (Dtu.eql (lk rfl) (lk rfl)) rfl ?_
          refine AB.gu 28 rfl (by decide +kernel) rfl rfl rfl (Dtu.mv (lk rfl)) rfl ?_
          refine AB.gu 29 rfl (by decide +kernel) rfl rfl rfl (Dtu.eqB Try.underlying4 (lk rfl) (lk rfl)) rfl ?_
          refine AB.u 30 rfl (by decide +kernel) (Dtu.pickT (lk rfl) (lk rfl)) rfl ?_
          refine AB.u 31 rfl (by decide +kernel) (Dtu.mv (lk rfl)) rfl ?_
          refine AB.decP 77 rfl (fun _ => ?_) (fun hn => absurd (by first | omega | assumption | decide) hn)
          refine AB.gu 32 rfl (by decide +kernel) rfl rfl rfl (Dtu.mv (lk rfl)) rfl ?_
          refine AB.gu 33 rfl (by decide +kernel) rfl rfl rfl (Dtu.mv (lk rfl)) rfl ?_
          refine AB.gn 34 rfl (by decide +kernel) rfl rfl rfl rfl rfl ?_
          refine AB.gn 35 rfl (by decide +kernel) rfl rfl rfl rfl rfl ?_
          refine AB.gu 36 rfl (by decide +kernel) rfl rfl rfl (Dtu.pickT (lk rfl) (lk rfl)) rfl ?_
          refine AB.u 37 rfl (by decide +kernel) (Dtu.pickT (lk rfl) (lk rfl)) rfl ?_
          refine AB.u 38 rfl (by decide +kernel) (Dtu.asg (lk rfl)) rfl ?_
          refine AB.done (by decide +kernel) ?_
          refine Then.next ?_
          refine Body.ret ?_
          exact ⟨.inr rfl, _, pk [] rfl, by first | rfl | exact bool_eq (by simp [*]), rfl⟩
        | false =>
          rw [hO] at k3
          have k6 := k5 hO
          refine AB.u 6 rfl (by decide +kernel) (Dtu.pickT (lk rfl) (lk rfl)) rfl ?_
          refine AB.u 7 rfl (by decide +kernel) (Dtu.mv (lk rfl)) rfl ?_
          refine AB.decP 53 rfl (fun _ => ?_) (fun hn => absurd (by first | omega | assumption | decide) hn)
          refine AB.gu 8 rfl (by decide +kernel) rfl rfl rfl (Dtu.mv (lk rfl)) rfl ?_
          refine AB.gu 9 rfl (by decide +kernel) rfl rfl rfl (Dtu.eql (lk rfl) (lk rfl)) rfl ?_
          refine AB.gu 10 rfl (by decide +kernel) rfl rfl rfl (Dtu.mv (lk rfl)) rfl ?_
          refine AB.gu 11 rfl (by decide +kernel) rfl rfl rfl (Dtu.eqB Try.underlying4 (lk rfl) (lk rfl)) rfl ?_
          refine AB.u 12 rfl (by decide +kernel) (Dtu.pickT (lk rfl) (lk rfl)) rfl ?_
          refine AB.u 13 rfl (by decide +kernel) (Dtu.mv (lk rfl)) rfl ?_
          refine AB.decP 59 rfl (fun _ => ?_) (fun hn => absurd (by first | omega | assumption | decide) hn)
          refine AB.gu 14 rfl (by decide +kernel) rfl rfl rfl (Dtu.mv (lk rfl)) rfl ?_
          refine AB.gu 15 rfl (by decide +kernel) rfl rfl rfl (Dtu.mv (lk rfl)) rfl ?_
          refine AB.gn 16 rfl (by decide +kernel) rfl rfl rfl rfl rfl ?_
          refine AB.gn 17 rfl (by decide +kernel) rfl rfl rfl rfl rfl ?_
          refine AB.gu 18 rfl (by decide +kernel) rfl rfl rfl (Dtu.pickT (lk rfl) (lk rfl)) rfl ?_
          refine AB.u 19 rfl (by decide +kernel) (Dtu.pickT (lk rfl) (lk rfl)) rfl ?_
          refine AB.u 20 rfl (by decide +kernel) (Dtu.mv (lk rfl)) rfl ?_
          refine AB.gu 21 rfl (by decide +kernel) rfl rfl rfl (Dtu.mv (lk rfl)) rfl ?_
          refine AB.gu 22 rfl (by decide +kernel) rfl rfl rfl (Dtu.mv (lk rfl)) rfl ?_
          refine AB.gu 23 rfl (by decide +kernel) rfl rfl rfl (Dtu.eql (lk rfl) (lk rfl)) rfl ?_
          refine AB.u 24 rfl (by decide +kernel) (Dtu.pickT (lk rfl) (lk rfl)) rfl ?_
          refine AB.u 25 rfl (by decide +kernel) (Dtu.mv (lk rfl)) rfl ?_
          refine AB.decP 71 rfl (fun _ => ?_) (fun hn => absurd (by first | omega | assumption | decide) hn)
          refine AB.gu 26 rfl (by decide +kernel) rfl rfl rfl (Dtu.mv (lk rfl)) rfl ?_
          refine AB.gu 27 rfl (by decide +kernel) rfl rfl rfl (Dtu.eql (lk rfl) (lk rfl)) rfl ?_
          refine AB.gu 28 rfl (by decide +kernel) rfl rfl rfl (Dtu.mv (lk rfl)) rfl ?_
          refine AB.gu 29 rfl (by decide +kernel) rfl rfl rfl (Dtu.eqB Try.underlying4 (lk rfl) (lk rfl)) rfl ?_
          refine AB.u 30 rfl (by decide +kernel) (Dtu.pickT (lk rfl) (lk rfl)) rfl ?_
          refine AB.u 31 rfl (by decide +kernel) (Dtu.mv (lk rfl)) rfl ?_
          refine AB.decP 77 rfl (fun _ => ?_) (fun hn => absurd (by first | omega | assumption | decide) hn)
          refine AB.gu 32 rfl (by decide +kernel) rfl rfl rfl (Dtu.mv (lk rfl)) rfl ?_
          refine AB.gu 33 rfl (by decide +kernel) rfl rfl rfl (Dtu.mv (lk rfl)) rfl ?_
          refine AB.gu 34 rfl (by decide +kernel) rfl rfl rfl (Dtu.mv (lk rfl)) rfl ?_
          refine AB.gu 35 rfl (by decide +kernel) rfl rfl rfl (Dtu.eql (lk rfl) (lk rfl)) rfl ?_
          refine AB.gu 36 rfl (by decide +kernel) rfl rfl rfl (Dtu.pickF (lk rfl) (lk rfl)) rfl ?_
          refine AB.u 37 rfl (by decide +kernel) (Dtu.pickT (lk rfl) (lk rfl)) rfl ?_
          refine AB.u 38 rfl (by decide +kernel) (Dtu.asg (lk rfl)) rfl ?_
          refine AB.done (by decide +kernel) ?_
          refine Then.next ?_
          refine Body.ret ?_
          exact ⟨.inr rfl, _, pk [] rfl, by first | rfl | exact bool_eq (by simp [*]), rfl⟩
      | false =>
        rw [hK] at k2
        have k7 := k4 hK
        cases hO : runsO bs with
        | true =>
          rw [hO] at k3
          refine AB.u 6 rfl (by decide +kernel) (Dtu.pickT (lk rfl) (lk rfl)) rfl ?_
          refine AB.u 7 rfl (by decide +kernel) (Dtu.mv (lk rfl)) rfl ?_
          refine AB.decP 53 rfl (fun _ => ?_) (fun hn => absurd (by first | omega | assumption | decide) hn)
          refine AB.gu 8 rfl (by decide +kernel) rfl rfl rfl (Dtu.mv (lk rfl)) rfl ?_
          refine AB.gu 9 rfl (by decide +kernel) rfl rfl rfl (Dtu.eql (lk rfl) (lk rfl)) rfl ?_
          refine AB.gu 10 rfl (by decide +kernel) rfl rfl rfl (Dtu.mv (lk rfl)) rfl ?_
          refine AB.gu 11 rfl (by decide +kernel) rfl rfl rfl (Dtu.eqB Try.underlying4 (lk rfl) (lk rfl)) rfl ?_
          refine AB.u 12 rfl (by decide +kernel) (Dtu.pickT (lk rfl) (lk rfl)) rfl ?_
          refine AB.u 13 rfl (by decide +kernel) (Dtu.mv (lk rfl)) rfl ?_
          refine AB.decP 59 rfl (fun _ => ?_) (fun hn => absurd (by first | omega | assumption | decide) hn)
          refine AB.gu 14 rfl (by decide +kernel) rfl rfl rfl (Dtu.mv (lk rfl)) rfl ?_
          refine AB.gu 15 rfl (by decide +kernel) rfl rfl rfl (Dtu.mv (lk rfl)) rfl ?_
          refine AB.gu 16 rfl (by decide +kernel) rfl rfl rfl (Dtu.mv (lk rfl)) rfl ?_
          refine AB.gu 17 rfl (by decide +kernel) rfl rfl rfl (Dtu.eql (lk rfl) (lk rfl)) rfl ?_
          refine AB.gu 18 rfl (by decide +kernel) rfl rfl rfl (Dtu.pickF (lk rfl) (lk rfl)) rfl ?_
          refine AB.u 19 rfl (by decide +kernel) (Dtu.pickT (lk rfl) (lk rfl)) rfl ?_
          refine AB.u 20 rfl (by decide +kernel) (Dtu.mv (lk rfl)) rfl ?_
          refine AB.decP 66 rfl (fun _ => ?_) (fun hn => absurd (by first | omega | assumption | decide) hn)
          refine AB.gu 21 rfl (by decide +kernel) rfl rfl rfl (Dtu.mv (lk rfl)) rfl ?_
          refine AB.gu 22 rfl (by decide +kernel) rfl rfl rfl (Dtu.mv (lk rfl)) rfl ?_
          refine AB.gu 23 rfl (by decide +kernel) rfl rfl rfl (Dtu.eql (lk rfl) (lk rfl)) rfl ?_
          refine AB.u 24 rfl (by decide +kernel) (Dtu.pickT (lk rfl) (lk rfl)) rfl ?_
          refine AB.u 25 rfl (by decide +kernel) (Dtu.mv (lk rfl)) rfl ?_
          refine AB.decP 71 rfl (fun _ => ?_) (fun hn => absurd (by first | omega | assumption | decide) hn)
          refine AB.gu 26 rfl (by decide +kernel) rfl rfl rfl (Dtu.mv (lk rfl)) rfl ?_
          refine AB.gu 27 rfl (by decide +kernel) rfl rfl rfl (Dtu.eql (lk rfl) (lk rfl)) rfl ?_
          refine AB.gu 28 rfl (by decide +kernel) rfl rfl rfl (Dtu.mv (lk rfl)) rfl ?_
          refine AB.gu 29 rfl (by decide +kernel) rfl rfl rfl (Dtu.eqB Try.underlying4 (lk rfl) (lk rfl)) rfl ?_
          refine AB.u 30 rfl (by decide +kernel) (Dtu.pickT (lk rfl) (lk rfl)) rfl ?_
          refine AB.u 31 rfl (by decide +kernel) (Dtu.mv (lk rfl)) rfl ?_
          refine AB.decP 77 rfl (fun _ => ?_) (fun hn => absurd (by first | omega | assumption | decide) hn)
          refine AB.gu 32 rfl (by decide +kernel) rfl rfl rfl (Dtu.mv (lk rfl)) rfl ?_
          refine AB.gu 33 rfl (by decide +kernel) rfl rfl rfl (Dtu.mv (lk rfl)) rfl ?_
          refine AB.gn 34 rfl (by decide +kernel) rfl rfl rfl rfl rfl ?_
          refine AB.gn 35 rfl (by decide +kernel) rfl rfl rfl rfl rfl ?_
          refine AB.gu 36 rfl (by decide +kernel) rfl rfl rfl (Dtu.pickT (lk rfl) (lk rfl)) rfl ?_
          refine AB.u 37 rfl (by decide +kernel) (Dtu.pickT (lk rfl) (lk rfl)) rfl ?_
          refine AB.u 38 rfl (by decide +kernel) (Dtu.asg (lk rfl)) rfl ?_
          refine AB.done (by decide +kernel) ?_
          refine Then.next ?_
          refine Body.ret ?_
          exact ⟨.inr rfl, _, pk [] rfl, by first | rfl | exact bool_eq (by simp [*]), rfl⟩
        | false =>
          rw [hO] at k3
          have k6 := k5 hO
          refine AB.u 6 rfl (by decide +kernel) (Dtu.pickT (lk rfl) (lk rfl)) rfl ?_
          refine AB.u 7 rfl (by decide +kernel) (Dtu.mv (lk rfl)) rfl ?_
          refine AB.decP 53 rfl (fun _ => ?_) (fun hn => absurd (by first | omega | assumption | decide) hn)
          refine AB.gu 8 rfl (by decide +kernel) rfl rfl rfl (Dtu.mv (lk rfl)) rfl ?_
          refine AB.gu 9 rfl (by decide +kernel) rfl rfl rfl (Dtu.eql (lk rfl) (lk rfl)) rfl ?_
          refine AB.gu 10 rfl (by decide +kernel) rfl rfl rfl (Dtu.mv (lk rfl)) rfl ?_
          refine AB.gu 11 rfl (by decide +kernel) rfl rfl rfl (Dtu.eqB Try.underlying4 (lk rfl) (lk rfl)) rfl ?_
          refine AB.u 12 rfl (by decide +kernel) (Dtu.pickT (lk rfl) (lk rfl)) rfl ?_
          refine AB.u 13 rfl (by decide +kernel) (Dtu.mv (lk rfl)) rfl ?_
          refine AB.decP 59 rfl (fun _ => ?_) (fun hn => absurd (by first | omega | assumption | decide) hn)
          refine AB.gu 14 rfl (by decide +kernel) rfl rfl rfl (Dtu.mv (lk rfl)) rfl ?_
          refine AB.gu 15 rfl (by decide +kernel) rfl rfl rfl (Dtu.mv (lk rfl)) rfl ?_
          refine AB.gu 16 rfl (by decide +kernel) rfl rfl rfl (Dtu.mv (lk rfl)) rfl ?_
          refine AB.gu 17 rfl (by decide +kernel) rfl rfl rfl (Dtu.eql (lk rfl) (lk rfl)) rfl ?_
          refine AB.gu 18 rfl (by decide +kernel) rfl rfl rfl (Dtu.pickF (lk rfl) (lk rfl)) rfl ?_
          refine AB.u 19 rfl (by decide +kernel) (Dtu.pickT (lk rfl) (lk rfl)) rfl ?_
          refine AB.u 20 rfl (by decide +kernel) (Dtu.mv (lk rfl)) rfl ?_
          refine AB.decP 66 rfl (fun _ => ?_) (fun hn => absurd (by first | omega | assumption | decide) hn)
          refine AB.gu 21 rfl (by decide +kernel) rfl rfl rfl (Dtu.mv (lk rfl)) rfl ?_
          refine AB.gu 22 rfl (by decide +kernel) rfl rfl rfl (Dtu.mv (lk rfl)) rfl ?_
          refine AB.gu 23 rfl (by decide +kernel) rfl rfl rfl (Dtu.eql (lk rfl) (lk rfl)) rfl ?_
          refine AB.u 24 rfl (by decide +kernel) (Dtu.pickT (lk rfl) (lk rfl)) rfl ?_
          refine AB.u 25 rfl (by decide +kernel) (Dtu.mv (lk rfl)) rfl ?_
          refine AB.decP 71 rfl (fun _ => ?_) (fun hn => absurd (by first | omega | assumption | decide) hn)
          refine AB.gu 26 rfl (by decide +kernel) rfl rfl rfl (Dtu.mv (lk rfl)) rfl ?_
          refine AB.gu 27 rfl (by decide +kernel) rfl rfl rfl (Dtu.eql (lk rfl) (lk rfl)) rfl ?_
          refine AB.gu 28 rfl (by decide +kernel) rfl rfl rfl (Dtu.mv (lk rfl)) rfl ?_
          refine AB.gu 29 rfl (by decide +kernel) rfl rfl rfl (Dtu.eqB Try.underlying4 (lk rfl) (lk rfl)) rfl ?_
          refine AB.u 30 rfl (by decide +kernel) (Dtu.pickT (lk rfl) (lk rfl)) rfl ?_
          refine AB.u 31 rfl (by decide +kernel) (Dtu.mv (lk rfl)) rfl ?_
          refine AB.decP 77 rfl (fun _ => ?_) (fun hn => absurd (by first | omega | assumption | decide) hn)
          refine AB.gu 32 rfl (by decide +kernel) rfl rfl rfl (Dtu.mv (lk rfl)) rfl ?_
          refine AB.gu 33 rfl (by decide +kernel) rfl rfl rfl (Dtu.mv (lk rfl)) rfl ?_
          refine AB.gu 34 rfl (by decide +kernel) rfl rfl rfl (Dtu.mv (lk rfl)) rfl ?_
          refine AB.gu 35 rfl (by decide +kernel) rfl rfl rfl (Dtu.eql (lk rfl) (lk rfl)) rfl ?_
          refine AB.gu 36 rfl (by decide +kernel) rfl rfl rfl (Dtu.pickF (lk rfl) (lk rfl)) rfl ?_
          refine AB.u 37 rfl (by decide +kernel) (Dtu.pickT (lk rfl) (lk rfl)) rfl ?_
          refine AB.u 38 rfl (by decide +kernel) (Dtu.asg (lk rfl)) rfl ?_
          refine AB.done (by decide +kernel) ?_
          refine Then.next ?_
          refine Body.ret ?_
          exact ⟨.inr rfl, _, pk [] rfl, by first | rfl | exact bool_eq (by simp [*]), rfl⟩
end Go.Proofs.Ytijjjdljdjnbaaa
end
section
/- A view and bytes as arguments, for PatchApplies. -/
end
section
/- 'Rows.PatchAppliesSaid': longlinelaw21.PatchApplies returns true, whatever view and bytes come in; they read as they did. -/
namespace Go.Proofs.Ytijjjdljdjnbaaa.patchApplies
open Go.Sx Go.ChangeShapes Go.WideShapes Go.ChangeAt Go.RowKit
set_option linter.unusedVariables false

theorem own : ownKnob Try.prog.godebug = none := by kernel_rfl
theorem laidOut : laidOutB Try.prog = true := by kernel_rfl
theorem pars : (Try.f4.params.toList.all fun t => Try.prog.readableRec t && decide (t < Try.prog.types.size)) = true := by kernel_rfl

set_option maxRecDepth 100000 in
theorem lifted (os : Os) (started : os.Started) (H : Type) (enc : TypeId × Value → H) :
    ReturnsInHanded {} Try.checked os 4 .any (Rows.patchAppliesSpec.pre6 enc Try.prog Try.f4 Rows.patchAppliesRow.domain false) (Rows.patchAppliesSpec.post enc Try.prog Try.f4 false true false false) := by
  refine returnsInHanded_of_change (C := Try.checked) own started (by kernel_rfl) Try.func4
    (ChangeSpec.witness6 (enc := enc) (C := Try.checked) false ⟨#[], #[.agg #[.int .i64 0, .int .i64 0, .slice none 0 0, .int .i64 0, .int .i64 0, .bool false], .slice none 0 0], []⟩ 8 (by kernel_rfl) (by kernel_rfl) (by kernel_rfl) (by kernel_rfl)) ?_
  intro W base args ds gs before hval0 hW hcnd _
  have hval : ∀ (j : Nat) t v, Try.f4.params[j]? = some t → args[j]? = some v → Value.okWide Try.prog W .any base t v := hval0
  have hW' := hW
  obtain ⟨p, q, hA0, hV, rfl, hfz, hnd⟩ := hW
  have hA : DataW.TrodAll enc Try.prog W 0 (fun _ => true) true Try.f4.params.toList args.toList ds p := hA0
  rw [Try.params4] at hA hval
  obtain ⟨v0, vs0, d0, ds0, p0, q0, hargs, rfl, rfl, h0, r0⟩ := trodAll_cons hA
  obtain ⟨v1, vs1, d1, ds1, p1, q1, rfl, rfl, rfl, h1, r1⟩ := trodAll_cons r0
  obtain ⟨rfl, rfl, rfl⟩ := trodAll_nil r1
  obtain rfl : args = #[v0, v1] := by cases args; simp_all
  obtain ⟨v, s, rfl, hs, hc⟩ := open_view (hval 0 24 v0 rfl rfl) h0
  obtain ⟨a, ln, cp, rfl⟩ := okWide_slice Try.underlying32 (hval 1 32 v1 rfl rfl)
  obtain ⟨n1, h1'⟩ := h1
  obtain ⟨b, bs, eb, hb, hbt⟩ := trod_bytes (cs := [.slice a ln cp]) h1'
  obtain rfl : Value.slice a ln cp = b := by simpa using eb
  refine (applies_ok (envOf W) v s _ bs hs hb hbt (fun c h => (hc c h).Fl) (fun c h => (hc c h).Cols) W St.all).mono ?_
  rintro e W' ⟨r, H', rfl, ⟨rfl, rfl⟩, s'⟩
  refine ⟨_, rfl, post_of_below (tb := 4) rfl rfl rfl Try.underlying4 laidOut (fun t ht => ?_) hW' (below_of_St s')⟩
  · have := List.all_eq_true.1 pars t ht
    rw [Bool.and_eq_true, decide_eq_true_eq] at this
    exact this

theorem over : Rows.patchAppliesRow.holds Try.pinned (OpenSpec.ofChange Rows.patchAppliesSpec) :=
  OpenClaim.holds_of_wide 4 Try.f4 rfl rfl rfl rfl rfl rfl rfl ⟨rfl, rfl, rfl, rfl, rfl⟩ rfl rfl rfl rfl rfl (by kernel_rfl) Try.func4 (by kernel_rfl)
    (of_decide_eq_true (by kernel_rfl)) (by unfold Func.isWrapper; first | (rw [if_pos (by decide +kernel)]; kernel_rfl) | (rw [if_neg (by decide +kernel)]; exact ⟨rfl, rfl⟩))
    (fun os started H enc _ => lifted os started H enc)

theorem proved : Rows.PatchAppliesSaid := over
end Go.Proofs.Ytijjjdljdjnbaaa.patchApplies
end
