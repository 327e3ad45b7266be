/- Qj: PatM. -/
import Derived.Test.YtijjjdljdjnbaaaQa
import Derived.Test.YtijjjdljdjnbaaaQb
import Derived.Test.YtijjjdljdjnbaaaQc
import Derived.Test.YtijjjdljdjnbaaaQd
import Derived.Test.YtijjjdljdjnbaaaQe
import Derived.Test.YtijjjdljdjnbaaaQf
import Derived.Test.YtijjjdljdjnbaaaQg
import Derived.Test.YtijjjdljdjnbaaaQh
import Derived.Test.YtijjjdljdjnbaaaQi
section
/- PatchDiffs: what it computes. -/
namespace Go.Proofs.Ytijjjdljdjnbaaa
set_option maxRecDepth 100000
set_option linter.unusedVariables false
set_option linter.unusedSimpArgs false
open Go.Sx

/-- the patch, where there is one -/
def difW (a b : View) : List Int := if a.ok && b.ok then difB a b else []
def difE (a b : View) : Int := if a.ok && b.ok then 0 else 3
theorem diff_any (E : Env) (a b : View) (s t : Value) (ha : a.has E [] s) (hb : b.has E [] t) : Does Try.prog 17 #[a.val s, b.val t] E [] fun r H' => ∃ s', r = .tuple #[s', .int .i64 (difE a b)] ∧ H' = [osl 5 1 s' (difW a b).length ((difW a b).map (.int .u8))] := by
  cases hk : a.ok && b.ok with
  | true =>
    have e1 : difW a b = difB a b := by simp [difW, hk]
    have e2 : difE a b = 0 := by simp [difE, hk]
    rw [e1, e2]
    have h2 : a.ok = true ∧ b.ok = true := by simpa using hk
    exact diff_ok E a b s t ha hb h2.1 h2.2
  | false =>
    have e1 : difW a b = [] := by simp [difW, hk]
    have e2 : difE a b = 3 := by simp [difE, hk]
    rw [e1, e2]
    intro w s0
    refine (diff_no E a b s t ha hb hk w s0).mono ?_
    rintro e w' ⟨r, H', he, ⟨rfl, rfl⟩, s'⟩
    exact ⟨_, _, he, ⟨_, rfl, rfl⟩, osl_nil s'⟩
set_option maxHeartbeats 3200000 in
theorem diffs_ok (E : Env) (v o : View) (s t : Value) (hv : v.has E [] s) (ho : o.has E [] t) (fv : ∀ c ∈ v.cells, c.Fl) (fo : ∀ c ∈ o.cells, c.Fl) (gv : ∀ c ∈ v.cells, c.Cols) (go : ∀ c ∈ o.cells, c.Cols) :
    Does Try.prog 3 #[v.val s, o.val t] E [] fun r H' => r = .bool true ∧ H' = [] := by
  obtain ⟨vr, vc, cells, vo, vl, vv⟩ := v
  obtain ⟨wr, wc, dells, wo, wl, wv⟩ := o
  unfold View.has at hv ho
  dsimp only at hv ho fv fo gv go
  refine Does.pure hv.isSl fun hsl => ?_
  obtain ⟨sa, sm, sc, rfl⟩ := hsl
  refine Does.pure ho.isSl fun hsl => ?_
  obtain ⟨ta, tm, tc, rfl⟩ := hsl
  refine Does.go (args := [View.val ⟨vr, vc, cells, vo, vl, vv⟩ (.slice sa sm sc), View.val ⟨wr, wc, dells, wo, wl, wv⟩ (.slice ta tm tc)]) _ _ Try.func3 rfl Try.ntmps3 rfl rfl ?_
  refine Body.seq ?_
  refine Body.region ?_
  refine Ops.s (Stp.box (lk rfl) rfl (fun b2 => ?_)) rfl
  refine Ops.s (Stp.box (lk rfl) rfl (fun b3 => ?_)) rfl
  refine Ops.u (Dtu.asg (lk rfl)) rfl ?_
  refine Ops.nil ?_
  refine Then.next ?_
  refine Body.seq ?_
  refine Body.seq ?_
  refine Body.region ?_
  refine Ops.u (Dtu.fld fa24_2 (lk rfl)) rfl ?_
  refine Ops.d (Det.ld Try.isAgg22 (lk rfl) (Rd.ow 1 rfl rfl)) rfl ?_
  refine Ops.u (Dtu.lenS Try.underlying22 (Sl.up hv) (lk rfl)) rfl ?_
  refine Ops.u (Dtu.gtr (lk rfl) (lk rfl)) rfl ?_
  refine Ops.u (Dtu.mv (lk rfl)) rfl ?_
  refine Ops.decP 13 rfl (fun c13 => ?_) (fun c13 => ?_)
  · refine Ops.gn rfl rfl rfl rfl rfl ?_
    refine Ops.gn rfl rfl rfl rfl rfl ?_
    refine Ops.gn rfl rfl rfl rfl rfl ?_
    refine Ops.gn rfl rfl rfl rfl rfl ?_
    refine Ops.u (Dtu.pickT (lk rfl) (lk rfl)) rfl ?_
    refine Ops.nil ?_
    refine Then.next ?_
    refine Body.condT (lk rfl) ?_
    refine Body.seq ?_
    refine Body.region ?_
    refine Ops.s (Stp.call rfl Try.call15 (lks rfl) (fun E' le hat => alive21_ok E') ?_) rfl
    rintro _ _ ⟨rfl, rfl⟩
    refine Ops.u (Dtu.asg (lk rfl)) rfl ?_
    refine Ops.nil ?_
    refine Then.next ?_
    refine Body.ret ?_
    refine Then.ret ?_
    exact ⟨.inr rfl, _, pk [] rfl, rfl, rfl⟩
  · refine Ops.gu rfl rfl rfl (Dtu.fld fa24_2 (lk rfl)) rfl ?_
    refine Ops.gd rfl rfl rfl (Det.ld Try.isAgg22 (lk rfl) (Rd.ow 0 rfl rfl)) rfl ?_
    refine Ops.gu rfl rfl rfl (Dtu.lenS Try.underlying22 (Sl.up ho) (lk rfl)) rfl ?_
    refine Ops.gu rfl rfl rfl (Dtu.gtr (lk rfl) (lk rfl)) rfl ?_
    refine Ops.u (Dtu.pickF (lk rfl) (lk rfl)) rfl ?_
    refine Ops.nil ?_
    refine Then.next ?_
    refine Body.condP (lk rfl) (fun c18 => ?_) (fun c18 => ?_)
    · refine Body.seq ?_
      refine Body.region ?_
      refine Ops.s (Stp.call rfl Try.call15 (lks rfl) (fun E' le hat => alive21_ok E') ?_) rfl
      rintro _ _ ⟨rfl, rfl⟩
      refine Ops.u (Dtu.asg (lk rfl)) rfl ?_
      refine Ops.nil ?_
      refine Then.next ?_
      refine Body.ret ?_
      refine Then.ret ?_
      exact ⟨.inr rfl, _, pk [] rfl, rfl, rfl⟩
    · refine Body.skip ?_
      refine Then.next ?_
      refine Body.seqJ (γ := (Nat × Nat) × (Option Addr × Nat × Nat) × (Option Addr × Nat × Nat)) rfl (fun g => [(5, .pointer (some ⟨g.1.1, 0, none⟩)), (6, .pointer (some ⟨g.1.2, 0, none⟩))])
        (fun g => [own g.1.1 [.int .i64 vr, .int .i64 vc, .slice g.2.1.1 g.2.1.2.1 g.2.1.2.2, .int .i64 vo, .int .i64 vl, .bool vv] 30, own g.1.2 [.int .i64 wr, .int .i64 wc, .slice g.2.2.1 g.2.2.2.1 g.2.2.2.2, .int .i64 wo, .int .i64 wl, .bool wv] 30,
          osl 65 11 (.slice g.2.1.1 g.2.1.2.1 g.2.1.2.2) cells.length (cells.flatMap Cell.renc), osl 65 11 (.slice g.2.2.1 g.2.2.2.1 g.2.2.2.2) dells.length (dells.flatMap Cell.renc),
          own b3 [.int .i64 wr, .int .i64 wc, .slice ta tm tc, .int .i64 wo, .int .i64 wl, .bool wv] 24, own b2 [.int .i64 vr, .int .i64 vc, .slice sa sm sc, .int .i64 vo, .int .i64 vl, .bool vv] 24]) (fun _ => True) ?_ ?_
      · refine Body.draw mixed ?_
        refine AB.d 0 rfl (by decide +kernel) rfl (Det.lda Try.isAgg24 Try.sizeOf24 (lk rfl) (Rds.ow (m := 6) 1 rfl rfl) rfl) rfl ?_
        refine AB.d 2 rfl (by decide +kernel) rfl (Det.lda Try.isAgg24 Try.sizeOf24 (lk rfl) (Rds.ow (m := 6) 0 rfl rfl) rfl) rfl ?_
        refine AB.more [1, 4, 5] (by decide +kernel) rfl ⟨?_, ?_, ?_, trivial⟩
        · refine ABI.s rfl (by decide +kernel) (Stp.call rfl Try.call16 (lks rfl) (fun E' le hat => as20_ok E' ⟨_, _, _, _, _, _⟩ _ (Sl.mono (by assumption) le) (by assumption) (by first | assumption | (dsimp only; omega))) ?_) rfl
          rintro _ _ ⟨xa21, xm21, xc21, rfl, rfl⟩
          refine AB.more [3, 4, 5] (by decide +kernel) rfl ⟨?_, ?_, ?_, trivial⟩
          · refine ABI.s rfl (by decide +kernel) (Stp.call rfl Try.call16 (lks rfl) (fun E' le hat => as20_ok E' ⟨_, _, _, _, _, _⟩ _ (Sl.mono (by assumption) le) (by assumption) (by first | assumption | (dsimp only; omega))) ?_) rfl
            rintro _ _ ⟨xa23, xm23, xc23, rfl, rfl⟩
            refine AB.more [4, 5] (by decide +kernel) rfl ⟨?_, ?_, trivial⟩
            · refine ABI.s rfl (by decide +kernel) (Stp.alloc ty30 (fun b5 => ?_)) rfl
              refine AB.s 5 rfl (by decide +kernel) (by decide +kernel) (Stp.alloc ty30 (fun b6 => ?_)) rfl
              refine AB.e 6 rfl (by decide +kernel) (by decide +kernel) (Stp.store 1 Try.sizeOf30 (lk rfl) (lk rfl) rfl rfl rfl rfl rfl rfl rfl ?_)
              refine AB.e 7 rfl (by decide +kernel) (by decide +kernel) (Stp.store 0 Try.sizeOf30 (lk rfl) (lk rfl) rfl rfl rfl rfl rfl rfl rfl ?_)
              refine AB.done (by decide +kernel) ?_
              (first | exact Joint.goK [3, 2, 1, 0, 0, 0] ((b5, b6), (xa21, xm21, xc21), (xa23, xm23, xc23)) rfl rfl rfl ⟨rfl, rfl, trivial⟩ rfl rfl trivial | exact Joint.goK [3, 1, 1, 0, 0, 0] ((b5, b6), (xa21, xm21, xc21), (xa23, xm23, xc23)) rfl rfl rfl ⟨rfl, rfl, trivial⟩ rfl rfl trivial | exact Joint.goK [3, 0, 1, 0, 0, 0] ((b5, b6), (xa21, xm21, xc21), (xa23, xm23, xc23)) rfl rfl rfl ⟨rfl, rfl, trivial⟩ rfl rfl trivial | exact Joint.goK [2, 2, 1, 0, 0, 0] ((b5, b6), (xa21, xm21, xc21), (xa23, xm23, xc23)) rfl rfl rfl ⟨rfl, rfl, trivial⟩ rfl rfl trivial | exact Joint.goK [1, 2, 1, 0, 0, 0] ((b5, b6), (xa21, xm21, xc21), (xa23, xm23, xc23)) rfl rfl rfl ⟨rfl, rfl, trivial⟩ rfl rfl trivial | exact Joint.goK [0, 2, 1, 0, 0, 0] ((b5, b6), (xa21, xm21, xc21), (xa23, xm23, xc23)) rfl rfl rfl ⟨rfl, rfl, trivial⟩ rfl rfl trivial | exact Joint.goK [2, 1, 1, 0, 0, 0] ((b5, b6), (xa21, xm21, xc21), (xa23, xm23, xc23)) rfl rfl rfl ⟨rfl, rfl, trivial⟩ rfl rfl trivial | exact Joint.goK [2, 0, 1, 0, 0, 0] ((b5, b6), (xa21, xm21, xc21), (xa23, xm23, xc23)) rfl rfl rfl ⟨rfl, rfl, trivial⟩ rfl rfl trivial | exact Joint.goK [1, 1, 1, 0, 0, 0] ((b5, b6), (xa21, xm21, xc21), (xa23, xm23, xc23)) rfl rfl rfl ⟨rfl, rfl, trivial⟩ rfl rfl trivial | exact Joint.goK [0, 1, 1, 0, 0, 0] ((b5, b6), (xa21, xm21, xc21), (xa23, xm23, xc23)) rfl rfl rfl ⟨rfl, rfl, trivial⟩ rfl rfl trivial | exact Joint.goK [1, 0, 1, 0, 0, 0] ((b5, b6), (xa21, xm21, xc21), (xa23, xm23, xc23)) rfl rfl rfl ⟨rfl, rfl, trivial⟩ rfl rfl trivial | exact Joint.goK [0, 0, 1, 0, 0, 0] ((b5, b6), (xa21, xm21, xc21), (xa23, xm23, xc23)) rfl rfl rfl ⟨rfl, rfl, trivial⟩ rfl rfl trivial)
            · refine ABI.s rfl (by decide +kernel) (Stp.alloc ty30 (fun b6 => ?_)) rfl
              refine AB.s 4 rfl (by decide +kernel) (by decide +kernel) (Stp.alloc ty30 (fun b5 => ?_)) rfl
              refine AB.e 6 rfl (by decide +kernel) (by decide +kernel) (Stp.store 0 Try.sizeOf30 (lk rfl) (lk rfl) rfl rfl rfl rfl rfl rfl rfl ?_)
              refine AB.e 7 rfl (by decide +kernel) (by decide +kernel) (Stp.store 1 Try.sizeOf30 (lk rfl) (lk rfl) rfl rfl rfl rfl rfl rfl rfl ?_)
              refine AB.done (by decide +kernel) ?_
              (first | exact Joint.goK [3, 2, 1, 0, 0, 0] ((b5, b6), (xa21, xm21, xc21), (xa23, xm23, xc23)) rfl rfl rfl ⟨rfl, rfl, trivial⟩ rfl rfl trivial | exact Joint.goK [3, 1, 1, 0, 0, 0] ((b5, b6), (xa21, xm21, xc21), (xa23, xm23, xc23)) rfl rfl rfl ⟨rfl, rfl, trivial⟩ rfl rfl trivial | exact Joint.goK [3, 0, 1, 0, 0, 0] ((b5, b6), (xa21, xm21, xc21), (xa23, xm23, xc23)) rfl rfl rfl ⟨rfl, rfl, trivial⟩ rfl rfl trivial | exact Joint.goK [2, 2, 1, 0, 0, 0] ((b5, b6), (xa21, xm21, xc21), (xa23, xm23, xc23)) rfl rfl rfl ⟨rfl, rfl, trivial⟩ rfl rfl trivial | exact Joint.goK [1, 2, 1, 0, 0, 0] ((b5, b6), (xa21, xm21, xc21), (xa23, xm23, xc23)) rfl rfl rfl ⟨rfl, rfl, trivial⟩ rfl rfl trivial | exact Joint.goK [0, 2, 1, 0, 0, 0] ((b5, b6), (xa21, xm21, xc21), (xa23, xm23, xc23)) rfl rfl rfl ⟨rfl, rfl, trivial⟩ rfl rfl trivial | exact Joint.goK [2, 1, 1, 0, 0, 0] ((b5, b6), (xa21, xm21, xc21), (xa23, xm23, xc23)) rfl rfl rfl ⟨rfl, rfl, trivial⟩ rfl rfl trivial | exact Joint.goK [2, 0, 1, 0, 0, 0] ((b5, b6), (xa21, xm21, xc21), (xa23, xm23, xc23)) rfl rfl rfl ⟨rfl, rfl, trivial⟩ rfl rfl trivial | exact Joint.goK [1, 1, 1, 0, 0, 0] ((b5, b6), (xa21, xm21, xc21), (xa23, xm23, xc23)) rfl rfl rfl ⟨rfl, rfl, trivial⟩ rfl rfl trivial | exact Joint.goK [0, 1, 1, 0, 0, 0] ((b5, b6), (xa21, xm21, xc21), (xa23, xm23, xc23)) rfl rfl rfl ⟨rfl, rfl, trivial⟩ rfl rfl trivial | exact Joint.goK [1, 0, 1, 0, 0, 0] ((b5, b6), (xa21, xm21, xc21), (xa23, xm23, xc23)) rfl rfl rfl ⟨rfl, rfl, trivial⟩ rfl rfl trivial | exact Joint.goK [0, 0, 1, 0, 0, 0] ((b5, b6), (xa21, xm21, xc21), (xa23, xm23, xc23)) rfl rfl rfl ⟨rfl, rfl, trivial⟩ rfl rfl trivial)
          · refine ABI.s rfl (by decide +kernel) (Stp.alloc ty30 (fun b5 => ?_)) rfl
            refine AB.more [3, 5] (by decide +kernel) rfl ⟨?_, ?_, trivial⟩
            · refine ABI.s rfl (by decide +kernel) (Stp.call rfl Try.call16 (lks rfl) (fun E' le hat => as20_ok E' ⟨_, _, _, _, _, _⟩ _ (Sl.mono (by assumption) le) (by assumption) (by first | assumption | (dsimp only; omega))) ?_) rfl
              rintro _ _ ⟨xa23, xm23, xc23, rfl, rfl⟩
              refine AB.s 5 rfl (by decide +kernel) (by decide +kernel) (Stp.alloc ty30 (fun b6 => ?_)) rfl
              refine AB.e 6 rfl (by decide +kernel) (by decide +kernel) (Stp.store 2 Try.sizeOf30 (lk rfl) (lk rfl) rfl rfl rfl rfl rfl rfl rfl ?_)
              refine AB.e 7 rfl (by decide +kernel) (by decide +kernel) (Stp.store 0 Try.sizeOf30 (lk rfl) (lk rfl) rfl rfl rfl rfl rfl rfl rfl ?_)
              refine AB.done (by decide +kernel) ?_
              (first | exact Joint.goK [3, 2, 1, 0, 0, 0] ((b5, b6), (xa21, xm21, xc21), (xa23, xm23, xc23)) rfl rfl rfl ⟨rfl, rfl, trivial⟩ rfl rfl trivial | exact Joint.goK [3, 1, 1, 0, 0, 0] ((b5, b6), (xa21, xm21, xc21), (xa23, xm23, xc23)) rfl rfl rfl ⟨rfl, rfl, trivial⟩ rfl rfl trivial | exact Joint.goK [3, 0, 1, 0, 0, 0] ((b5, b6), (xa21, xm21, xc21), (xa23, xm23, xc23)) rfl rfl rfl ⟨rfl, rfl, trivial⟩ rfl rfl trivial | exact Joint.goK [2, 2, 1, 0, 0, 0] ((b5, b6), (xa21, xm21, xc21), (xa23, xm23, xc23)) rfl rfl rfl ⟨rfl, rfl, trivial⟩ rfl rfl trivial | exact Joint.goK [1, 2, 1, 0, 0, 0] ((b5, b6), (xa21, xm21, xc21), (xa23, xm23, xc23)) rfl rfl rfl ⟨rfl, rfl, trivial⟩ rfl rfl trivial | exact Joint.goK [0, 2, 1, 0, 0, 0] ((b5, b6), (xa21, xm21, xc21), (xa23, xm23, xc23)) rfl rfl rfl ⟨rfl, rfl, trivial⟩ rfl rfl trivial | exact Joint.goK [2, 1, 1, 0, 0, 0] ((b5, b6), (xa21, xm21, xc21), (xa23, xm23, xc23)) rfl rfl rfl ⟨rfl, rfl, trivial⟩ rfl rfl trivial | exact Joint.goK [2, 0, 1, 0, 0, 0] ((b5, b6), (xa21, xm21, xc21), (xa23, xm23, xc23)) rfl rfl rfl ⟨rfl, rfl, trivial⟩ rfl rfl trivial | exact Joint.goK [1, 1, 1, 0, 0, 0] ((b5, b6), (xa21, xm21, xc21), (xa23, xm23, xc23)) rfl rfl rfl ⟨rfl, rfl, trivial⟩ rfl rfl trivial | exact Joint.goK [0, 1, 1, 0, 0, 0] ((b5, b6), (xa21, xm21, xc21), (xa23, xm23, xc23)) rfl rfl rfl ⟨rfl, rfl, trivial⟩ rfl rfl trivial | exact Joint.goK [1, 0, 1, 0, 0, 0] ((b5, b6), (xa21, xm21, xc21), (xa23, xm23, xc23)) rfl rfl rfl ⟨rfl, rfl, trivial⟩ rfl rfl trivial | exact Joint.goK [0, 0, 1, 0, 0, 0] ((b5, b6), (xa21, xm21, xc21), (xa23, xm23, xc23)) rfl rfl rfl ⟨rfl, rfl, trivial⟩ rfl rfl trivial)
            · refine ABI.s rfl (by decide +kernel) (Stp.alloc ty30 (fun b6 => ?_)) rfl
              refine AB.s 3 rfl (by decide +kernel) (by decide +kernel) (Stp.call rfl Try.call16 (lks rfl) (fun E' le hat => as20_ok E' ⟨_, _, _, _, _, _⟩ _ (Sl.mono (by assumption) le) (by assumption) (by first | assumption | (dsimp only; omega))) ?_) rfl
              rintro _ _ ⟨xa23, xm23, xc23, rfl, rfl⟩
              refine AB.e 6 rfl (by decide +kernel) (by decide +kernel) (Stp.store 2 Try.sizeOf30 (lk rfl) (lk rfl) rfl rfl rfl rfl rfl rfl rfl ?_)
              refine AB.e 7 rfl (by decide +kernel) (by decide +kernel) (Stp.store 1 Try.sizeOf30 (lk rfl) (lk rfl) rfl rfl rfl rfl rfl rfl rfl ?_)
              refine AB.done (by decide +kernel) ?_
              (first | exact Joint.goK [3, 2, 1, 0, 0, 0] ((b5, b6), (xa21, xm21, xc21), (xa23, xm23, xc23)) rfl rfl rfl ⟨rfl, rfl, trivial⟩ rfl rfl trivial | exact Joint.goK [3, 1, 1, 0, 0, 0] ((b5, b6), (xa21, xm21, xc21), (xa23, xm23, xc23)) rfl rfl rfl ⟨rfl, rfl, trivial⟩ rfl rfl trivial | exact Joint.goK [3, 0, 1, 0, 0, 0] ((b5, b6), (xa21, xm21, xc21), (xa23, xm23, xc23)) rfl rfl rfl ⟨rfl, rfl, trivial⟩ rfl rfl trivial | exact Joint.goK [2, 2, 1, 0, 0, 0] ((b5, b6), (xa21, xm21, xc21), (xa23, xm23, xc23)) rfl rfl rfl ⟨rfl, rfl, trivial⟩ rfl rfl trivial | exact Joint.goK [1, 2, 1, 0, 0, 0] ((b5, b6), (xa21, xm21, xc21), (xa23, xm23, xc23)) rfl rfl rfl ⟨rfl, rfl, trivial⟩ rfl rfl trivial | exact Joint.goK [0, 2, 1, 0, 0, 0] ((b5, b6), (xa21, xm21, xc21), (xa23, xm23, xc23)) rfl rfl rfl ⟨rfl, rfl, trivial⟩ rfl rfl trivial | exact Joint.goK [2, 1, 1, 0, 0, 0] ((b5, b6), (xa21, xm21, xc21), (xa23, xm23, xc23)) rfl rfl rfl ⟨rfl, rfl, trivial⟩ rfl rfl trivial | exact Joint.goK [2, 0, 1, 0, 0, 0] ((b5, b6), (xa21, xm21, xc21), (xa23, xm23, xc23)) rfl rfl rfl ⟨rfl, rfl, trivial⟩ rfl rfl trivial | exact Joint.goK [1, 1, 1, 0, 0, 0] ((b5, b6), (xa21, xm21, xc21), (xa23, xm23, xc23)) rfl rfl rfl ⟨rfl, rfl, trivial⟩ rfl rfl trivial | exact Joint.goK [0, 1, 1, 0, 0, 0] ((b5, b6), (xa21, xm21, xc21), (xa23, xm23, xc23)) rfl rfl rfl ⟨rfl, rfl, trivial⟩ rfl rfl trivial | exact Joint.goK [1, 0, 1, 0, 0, 0] ((b5, b6), (xa21, xm21, xc21), (xa23, xm23, xc23)) rfl rfl rfl ⟨rfl, rfl, trivial⟩ rfl rfl trivial | exact Joint.goK [0, 0, 1, 0, 0, 0] ((b5, b6), (xa21, xm21, xc21), (xa23, xm23, xc23)) rfl rfl rfl ⟨rfl, rfl, trivial⟩ rfl rfl trivial)
          · refine ABI.s rfl (by decide +kernel) (Stp.alloc ty30 (fun b6 => ?_)) rfl
            refine AB.more [3, 4] (by decide +kernel) rfl ⟨?_, ?_, trivial⟩
            · refine ABI.s rfl (by decide +kernel) (Stp.call rfl Try.call16 (lks rfl) (fun E' le hat => as20_ok E' ⟨_, _, _, _, _, _⟩ _ (Sl.mono (by assumption) le) (by assumption) (by first | assumption | (dsimp only; omega))) ?_) rfl
              rintro _ _ ⟨xa23, xm23, xc23, rfl, rfl⟩
              refine AB.s 4 rfl (by decide +kernel) (by decide +kernel) (Stp.alloc ty30 (fun b5 => ?_)) rfl
              refine AB.e 6 rfl (by decide +kernel) (by decide +kernel) (Stp.store 0 Try.sizeOf30 (lk rfl) (lk rfl) rfl rfl rfl rfl rfl rfl rfl ?_)
              refine AB.e 7 rfl (by decide +kernel) (by decide +kernel) (Stp.store 2 Try.sizeOf30 (lk rfl) (lk rfl) rfl rfl rfl rfl rfl rfl rfl ?_)
              refine AB.done (by decide +kernel) ?_
              (first | exact Joint.goK [3, 2, 1, 0, 0, 0] ((b5, b6), (xa21, xm21, xc21), (xa23, xm23, xc23)) rfl rfl rfl ⟨rfl, rfl, trivial⟩ rfl rfl trivial | exact Joint.goK [3, 1, 1, 0, 0, 0] ((b5, b6), (xa21, xm21, xc21), (xa23, xm23, xc23)) rfl rfl rfl ⟨rfl, rfl, trivial⟩ rfl rfl trivial | exact Joint.goK [3, 0, 1, 0, 0, 0] ((b5, b6), (xa21, xm21, xc21), (xa23, xm23, xc23)) rfl rfl rfl ⟨rfl, rfl, trivial⟩ rfl rfl trivial | exact Joint.goK [2, 2, 1, 0, 0, 0] ((b5, b6), (xa21, xm21, xc21), (xa23, xm23, xc23)) rfl rfl rfl ⟨rfl, rfl, trivial⟩ rfl rfl trivial | exact Joint.goK [1, 2, 1, 0, 0, 0] ((b5, b6), (xa21, xm21, xc21), (xa23, xm23, xc23)) rfl rfl rfl ⟨rfl, rfl, trivial⟩ rfl rfl trivial | exact Joint.goK [0, 2, 1, 0, 0, 0] ((b5, b6), (xa21, xm21, xc21), (xa23, xm23, xc23)) rfl rfl rfl ⟨rfl, rfl, trivial⟩ rfl rfl trivial | exact Joint.goK [2, 1, 1, 0, 0, 0] ((b5, b6), (xa21, xm21, xc21), (xa23, xm23, xc23)) rfl rfl rfl ⟨rfl, rfl, trivial⟩ rfl rfl trivial | exact Joint.goK [2, 0, 1, 0, 0, 0] ((b5, b6), (xa21, xm21, xc21), (xa23, xm23, xc23)) rfl rfl rfl ⟨rfl, rfl, trivial⟩ rfl rfl trivial | exact Joint.goK [1, 1, 1, 0, 0, 0] ((b5, b6), (xa21, xm21, xc21), (xa23, xm23, xc23)) rfl rfl rfl ⟨rfl, rfl, trivial⟩ rfl rfl trivial | exact Joint.goK [0, 1, 1, 0, 0, 0] ((b5, b6), (xa21, xm21, xc21), (xa23, xm23, xc23)) rfl rfl rfl ⟨rfl, rfl, trivial⟩ rfl rfl trivial | exact Joint.goK [1, 0, 1, 0, 0, 0] ((b5, b6), (xa21, xm21, xc21), (xa23, xm23, xc23)) rfl rfl rfl ⟨rfl, rfl, trivial⟩ rfl rfl trivial | exact Joint.goK [0, 0, 1, 0, 0, 0] ((b5, b6), (xa21, xm21, xc21), (xa23, xm23, xc23)) rfl rfl rfl ⟨rfl, rfl, trivial⟩ rfl rfl trivial)
            · refine ABI.s rfl (by decide +kernel) (Stp.alloc ty30 (fun b5 => ?_)) rfl
              refine AB.s 3 rfl (by decide +kernel) (by decide +kernel) (Stp.call rfl Try.call16 (lks rfl) (fun E' le hat => as20_ok E' ⟨_, _, _, _, _, _⟩ _ (Sl.mono (by assumption) le) (by assumption) (by first | assumption | (dsimp only; omega))) ?_) rfl
              rintro _ _ ⟨xa23, xm23, xc23, rfl, rfl⟩
              refine AB.e 6 rfl (by decide +kernel) (by decide +kernel) (Stp.store 1 Try.sizeOf30 (lk rfl) (lk rfl) rfl rfl rfl rfl rfl rfl rfl ?_)
              refine AB.e 7 rfl (by decide +kernel) (by decide +kernel) (Stp.store 2 Try.sizeOf30 (lk rfl) (lk rfl) rfl rfl rfl rfl rfl rfl rfl ?_)
              refine AB.done (by decide +kernel) ?_
              (first | exact Joint.goK [3, 2, 1, 0, 0, 0] ((b5, b6), (xa21, xm21, xc21), (xa23, xm23, xc23)) rfl rfl rfl ⟨rfl, rfl, trivial⟩ rfl rfl trivial | exact Joint.goK [3, 1, 1, 0, 0, 0] ((b5, b6), (xa21, xm21, xc21), (xa23, xm23, xc23)) rfl rfl rfl ⟨rfl, rfl, trivial⟩ rfl rfl trivial | exact Joint.goK [3, 0, 1, 0, 0, 0] ((b5, b6), (xa21, xm21, xc21), (xa23, xm23, xc23)) rfl rfl rfl ⟨rfl, rfl, trivial⟩ rfl rfl trivial | exact Joint.goK [2, 2, 1, 0, 0, 0] ((b5, b6), (xa21, xm21, xc21), (xa23, xm23, xc23)) rfl rfl rfl ⟨rfl, rfl, trivial⟩ rfl rfl trivial | exact Joint.goK [1, 2, 1, 0, 0, 0] ((b5, b6), (xa21, xm21, xc21), (xa23, xm23, xc23)) rfl rfl rfl ⟨rfl, rfl, trivial⟩ rfl rfl trivial | exact Joint.goK [0, 2, 1, 0, 0, 0] ((b5, b6), (xa21, xm21, xc21), (xa23, xm23, xc23)) rfl rfl rfl ⟨rfl, rfl, trivial⟩ rfl rfl trivial | exact Joint.goK [2, 1, 1, 0, 0, 0] ((b5, b6), (xa21, xm21, xc21), (xa23, xm23, xc23)) rfl rfl rfl ⟨rfl, rfl, trivial⟩ rfl rfl trivial | exact Joint.goK [2, 0, 1, 0, 0, 0] ((b5, b6), (xa21, xm21, xc21), (xa23, xm23, xc23)) rfl rfl rfl ⟨rfl, rfl, trivial⟩ rfl rfl trivial | exact Joint.goK [1, 1, 1, 0, 0, 0] ((b5, b6), (xa21, xm21, xc21), (xa23, xm23, xc23)) rfl rfl rfl ⟨rfl, rfl, trivial⟩ rfl rfl trivial | exact Joint.goK [0, 1, 1, 0, 0, 0] ((b5, b6), (xa21, xm21, xc21), (xa23, xm23, xc23)) rfl rfl rfl ⟨rfl, rfl, trivial⟩ rfl rfl trivial | exact Joint.goK [1, 0, 1, 0, 0, 0] ((b5, b6), (xa21, xm21, xc21), (xa23, xm23, xc23)) rfl rfl rfl ⟨rfl, rfl, trivial⟩ rfl rfl trivial | exact Joint.goK [0, 0, 1, 0, 0, 0] ((b5, b6), (xa21, xm21, xc21), (xa23, xm23, xc23)) rfl rfl rfl ⟨rfl, rfl, trivial⟩ rfl rfl trivial)
        · refine ABI.s rfl (by decide +kernel) (Stp.alloc ty30 (fun b5 => ?_)) rfl
          refine AB.more [1, 5] (by decide +kernel) rfl ⟨?_, ?_, trivial⟩
          · refine ABI.s rfl (by decide +kernel) (Stp.call rfl Try.call16 (lks rfl) (fun E' le hat => as20_ok E' ⟨_, _, _, _, _, _⟩ _ (Sl.mono (by assumption) le) (by assumption) (by first | assumption | (dsimp only; omega))) ?_) rfl
            rintro _ _ ⟨xa21, xm21, xc21, rfl, rfl⟩
            refine AB.more [3, 5] (by decide +kernel) rfl ⟨?_, ?_, trivial⟩
            · refine ABI.s rfl (by decide +kernel) (Stp.call rfl Try.call16 (lks rfl) (fun E' le hat => as20_ok E' ⟨_, _, _, _, _, _⟩ _ (Sl.mono (by assumption) le) (by assumption) (by first | assumption | (dsimp only; omega))) ?_) rfl
              rintro _ _ ⟨xa23, xm23, xc23, rfl, rfl⟩
              refine AB.s 5 rfl (by decide +kernel) (by decide +kernel) (Stp.alloc ty30 (fun b6 => ?_)) rfl
              refine AB.e 6 rfl (by decide +kernel) (by decide +kernel) (Stp.store 3 Try.sizeOf30 (lk rfl) (lk rfl) rfl rfl rfl rfl rfl rfl rfl ?_)
              refine AB.e 7 rfl (by decide +kernel) (by decide +kernel) (Stp.store 0 Try.sizeOf30 (lk rfl) (lk rfl) rfl rfl rfl rfl rfl rfl rfl ?_)
              refine AB.done (by decide +kernel) ?_
              (first | exact Joint.goK [3, 2, 1, 0, 0, 0] ((b5, b6), (xa21, xm21, xc21), (xa23, xm23, xc23)) rfl rfl rfl ⟨rfl, rfl, trivial⟩ rfl rfl trivial | exact Joint.goK [3, 1, 1, 0, 0, 0] ((b5, b6), (xa21, xm21, xc21), (xa23, xm23, xc23)) rfl rfl rfl ⟨rfl, rfl, trivial⟩ rfl rfl trivial | exact Joint.goK [3, 0, 1, 0, 0, 0] ((b5, b6), (xa21, xm21, xc21), (xa23, xm23, xc23)) rfl rfl rfl ⟨rfl, rfl, trivial⟩ rfl rfl trivial | exact Joint.goK [2, 2, 1, 0, 0, 0] ((b5, b6), (xa21, xm21, xc21), (xa23, xm23, xc23)) rfl rfl rfl ⟨rfl, rfl, trivial⟩ rfl rfl trivial | exact Joint.goK [1, 2, 1, 0, 0, 0] ((b5, b6), (xa21, xm21, xc21), (xa23, xm23, xc23)) rfl rfl rfl ⟨rfl, rfl, trivial⟩ rfl rfl trivial | exact Joint.goK [0, 2, 1, 0, 0, 0] ((b5, b6), (xa21, xm21, xc21), (xa23, xm23, xc23)) rfl rfl rfl ⟨rfl, rfl, trivial⟩ rfl rfl trivial | exact Joint.goK [2, 1, 1, 0, 0, 0] ((b5, b6), (xa21, xm21, xc21), (xa23, xm23, xc23)) rfl rfl rfl ⟨rfl, rfl, trivial⟩ rfl rfl trivial | exact Joint.goK [2, 0, 1, 0, 0, 0] ((b5, b6), (xa21, xm21, xc21), (xa23, xm23, xc23)) rfl rfl rfl ⟨rfl, rfl, trivial⟩ rfl rfl trivial | exact Joint.goK [1, 1, 1, 0, 0, 0] ((b5, b6), (xa21, xm21, xc21), (xa23, xm23, xc23)) rfl rfl rfl ⟨rfl, rfl, trivial⟩ rfl rfl trivial | exact Joint.goK [0, 1, 1, 0, 0, 0] ((b5, b6), (xa21, xm21, xc21), (xa23, xm23, xc23)) rfl rfl rfl ⟨rfl, rfl, trivial⟩ rfl rfl trivial | exact Joint.goK [1, 0, 1, 0, 0, 0] ((b5, b6), (xa21, xm21, xc21), (xa23, xm23, xc23)) rfl rfl rfl ⟨rfl, rfl, trivial⟩ rfl rfl trivial | exact Joint.goK [0, 0, 1, 0, 0, 0] ((b5, b6), (xa21, xm21, xc21), (xa23, xm23, xc23)) rfl rfl rfl ⟨rfl, rfl, trivial⟩ rfl rfl trivial)
            · refine ABI.s rfl (by decide +kernel) (Stp.alloc ty30 (fun b6 => ?_)) rfl
              refine AB.s 3 rfl (by decide +kernel) (by decide +kernel) (Stp.call rfl Try.call16 (lks rfl) (fun E' le hat => as20_ok E' ⟨_, _, _, _, _, _⟩ _ (Sl.mono (by assumption) le) (by assumption) (by first | assumption | (dsimp only; omega))) ?_) rfl
              rintro _ _ ⟨xa23, xm23, xc23, rfl, rfl⟩
              refine AB.e 6 rfl (by decide +kernel) (by decide +kernel) (Stp.store 3 Try.sizeOf30 (lk rfl) (lk rfl) rfl rfl rfl rfl rfl rfl rfl ?_)
              refine AB.e 7 rfl (by decide +kernel) (by decide +kernel) (Stp.store 1 Try.sizeOf30 (lk rfl) (lk rfl) rfl rfl rfl rfl rfl rfl rfl ?_)
              refine AB.done (by decide +kernel) ?_
              (first | exact Joint.goK [3, 2, 1, 0, 0, 0] ((b5, b6), (xa21, xm21, xc21), (xa23, xm23, xc23)) rfl rfl rfl ⟨rfl, rfl, trivial⟩ rfl rfl trivial | exact Joint.goK [3, 1, 1, 0, 0, 0] ((b5, b6), (xa21, xm21, xc21), (xa23, xm23, xc23)) rfl rfl rfl ⟨rfl, rfl, trivial⟩ rfl rfl trivial | exact Joint.goK [3, 0, 1, 0, 0, 0] ((b5, b6), (xa21, xm21, xc21), (xa23, xm23, xc23)) rfl rfl rfl ⟨rfl, rfl, trivial⟩ rfl rfl trivial | exact Joint.goK [2, 2, 1, 0, 0, 0] ((b5, b6), (xa21, xm21, xc21), (xa23, xm23, xc23)) rfl rfl rfl ⟨rfl, rfl, trivial⟩ rfl rfl trivial | exact Joint.goK [1, 2, 1, 0, 0, 0] ((b5, b6), (xa21, xm21, xc21), (xa23, xm23, xc23)) rfl rfl rfl ⟨rfl, rfl, trivial⟩ rfl rfl trivial | exact Joint.goK [0, 2, 1, 0, 0, 0] ((b5, b6), (xa21, xm21, xc21), (xa23, xm23, xc23)) rfl rfl rfl ⟨rfl, rfl, trivial⟩ rfl rfl trivial | exact Joint.goK [2, 1, 1, 0, 0, 0] ((b5, b6), (xa21, xm21, xc21), (xa23, xm23, xc23)) rfl rfl rfl ⟨rfl, rfl, trivial⟩ rfl rfl trivial | exact Joint.goK [2, 0, 1, 0, 0, 0] ((b5, b6), (xa21, xm21, xc21), (xa23, xm23, xc23)) rfl rfl rfl ⟨rfl, rfl, trivial⟩ rfl rfl trivial | exact Joint.goK [1, 1, 1, 0, 0, 0] ((b5, b6), (xa21, xm21, xc21), (xa23, xm23, xc23)) rfl rfl rfl ⟨rfl, rfl, trivial⟩ rfl rfl trivial | exact Joint.goK [0, 1, 1, 0, 0, 0] ((b5, b6), (xa21, xm21, xc21), (xa23, xm23, xc23)) rfl rfl rfl ⟨rfl, rfl, trivial⟩ rfl rfl trivial | exact Joint.goK [1, 0, 1, 0, 0, 0] ((b5, b6), (xa21, xm21, xc21), (xa23, xm23, xc23)) rfl rfl rfl ⟨rfl, rfl, trivial⟩ rfl rfl trivial | exact Joint.goK [0, 0, 1, 0, 0, 0] ((b5, b6), (xa21, xm21, xc21), (xa23, xm23, xc23)) rfl rfl rfl ⟨rfl, rfl, trivial⟩ rfl rfl trivial)
          · refine ABI.s rfl (by decide +kernel) (Stp.alloc ty30 (fun b6 => ?_)) rfl
            refine AB.s 1 rfl (by decide +kernel) (by decide +kernel) (Stp.call rfl Try.call16 (lks rfl) (fun E' le hat => as20_ok E' ⟨_, _, _, _, _, _⟩ _ (Sl.mono (by assumption) le) (by assumption) (by first | assumption | (dsimp only; omega))) ?_) rfl
            rintro _ _ ⟨xa21, xm21, xc21, rfl, rfl⟩
            refine AB.s 3 rfl (by decide +kernel) (by decide +kernel) (Stp.call rfl Try.call16 (lks rfl) (fun E' le hat => as20_ok E' ⟨_, _, _, _, _, _⟩ _ (Sl.mono (by assumption) le) (by assumption) (by first | assumption | (dsimp only; omega))) ?_) rfl
            rintro _ _ ⟨xa23, xm23, xc23, rfl, rfl⟩
            refine AB.e 6 rfl (by decide +kernel) (by decide +kernel) (Stp.store 3 Try.sizeOf30 (lk rfl) (lk rfl) rfl rfl rfl rfl rfl rfl rfl ?_)
            refine AB.e 7 rfl (by decide +kernel) (by decide +kernel) (Stp.store 2 Try.sizeOf30 (lk rfl) (lk rfl) rfl rfl rfl rfl rfl rfl rfl ?_)
            refine AB.done (by decide +kernel) ?_
            (first | exact Joint.goK [3, 2, 1, 0, 0, 0] ((b5, b6), (xa21, xm21, xc21), (xa23, xm23, xc23)) rfl rfl rfl ⟨rfl, rfl, trivial⟩ rfl rfl trivial | exact Joint.goK [3, 1, 1, 0, 0, 0] ((b5, b6), (xa21, xm21, xc21), (xa23, xm23, xc23)) rfl rfl rfl ⟨rfl, rfl, trivial⟩ rfl rfl trivial | exact Joint.goK [3, 0, 1, 0, 0, 0] ((b5, b6), (xa21, xm21, xc21), (xa23, xm23, xc23)) rfl rfl rfl ⟨rfl, rfl, trivial⟩ rfl rfl trivial | exact Joint.goK [2, 2, 1, 0, 0, 0] ((b5, b6), (xa21, xm21, xc21), (xa23, xm23, xc23)) rfl rfl rfl ⟨rfl, rfl, trivial⟩ rfl rfl trivial | exact Joint.goK [1, 2, 1, 0, 0, 0] ((b5, b6), (xa21, xm21, xc21), (xa23, xm23, xc23)) rfl rfl rfl ⟨rfl, rfl, trivial⟩ rfl rfl trivial | exact Joint.goK [0, 2, 1, 0, 0, 0] ((b5, b6), (xa21, xm21, xc21), (xa23, xm23, xc23)) rfl rfl rfl ⟨rfl, rfl, trivial⟩ rfl rfl trivial | exact Joint.goK [2, 1, 1, 0, 0, 0] ((b5, b6), (xa21, xm21, xc21), (xa23, xm23, xc23)) rfl rfl rfl ⟨rfl, rfl, trivial⟩ rfl rfl trivial | exact Joint.goK [2, 0, 1, 0, 0, 0] ((b5, b6), (xa21, xm21, xc21), (xa23, xm23, xc23)) rfl rfl rfl ⟨rfl, rfl, trivial⟩ rfl rfl trivial | exact Joint.goK [1, 1, 1, 0, 0, 0] ((b5, b6), (xa21, xm21, xc21), (xa23, xm23, xc23)) rfl rfl rfl ⟨rfl, rfl, trivial⟩ rfl rfl trivial | exact Joint.goK [0, 1, 1, 0, 0, 0] ((b5, b6), (xa21, xm21, xc21), (xa23, xm23, xc23)) rfl rfl rfl ⟨rfl, rfl, trivial⟩ rfl rfl trivial | exact Joint.goK [1, 0, 1, 0, 0, 0] ((b5, b6), (xa21, xm21, xc21), (xa23, xm23, xc23)) rfl rfl rfl ⟨rfl, rfl, trivial⟩ rfl rfl trivial | exact Joint.goK [0, 0, 1, 0, 0, 0] ((b5, b6), (xa21, xm21, xc21), (xa23, xm23, xc23)) rfl rfl rfl ⟨rfl, rfl, trivial⟩ rfl rfl trivial)
        · refine ABI.s rfl (by decide +kernel) (Stp.alloc ty30 (fun b6 => ?_)) rfl
          refine AB.more [1, 4] (by decide +kernel) rfl ⟨?_, ?_, trivial⟩
          · refine ABI.s rfl (by decide +kernel) (Stp.call rfl Try.call16 (lks rfl) (fun E' le hat => as20_ok E' ⟨_, _, _, _, _, _⟩ _ (Sl.mono (by assumption) le) (by assumption) (by first | assumption | (dsimp only; omega))) ?_) rfl
            rintro _ _ ⟨xa21, xm21, xc21, rfl, rfl⟩
            refine AB.more [3, 4] (by decide +kernel) rfl ⟨?_, ?_, trivial⟩
            · refine ABI.s rfl (by decide +kernel) (Stp.call rfl Try.call16 (lks rfl) (fun E' le hat => as20_ok E' ⟨_, _, _, _, _, _⟩ _ (Sl.mono (by assumption) le) (by assumption) (by first | assumption | (dsimp only; omega))) ?_) rfl
              rintro _ _ ⟨xa23, xm23, xc23, rfl, rfl⟩
              refine AB.s 4 rfl (by decide +kernel) (by decide +kernel) (Stp.alloc ty30 (fun b5 => ?_)) rfl
              refine AB.e 6 rfl (by decide +kernel) (by decide +kernel) (Stp.store 0 Try.sizeOf30 (lk rfl) (lk rfl) rfl rfl rfl rfl rfl rfl rfl ?_)
              refine AB.e 7 rfl (by decide +kernel) (by decide +kernel) (Stp.store 3 Try.sizeOf30 (lk rfl) (lk rfl) rfl rfl rfl rfl rfl rfl rfl ?_)
              refine AB.done (by decide +kernel) ?_
              (first | exact Joint.goK [3, 2, 1, 0, 0, 0] ((b5, b6), (xa21, xm21, xc21), (xa23, xm23, xc23)) rfl rfl rfl ⟨rfl, rfl, trivial⟩ rfl rfl trivial | exact Joint.goK [3, 1, 1, 0, 0, 0] ((b5, b6), (xa21, xm21, xc21), (xa23, xm23, xc23)) rfl rfl rfl ⟨rfl, rfl, trivial⟩ rfl rfl trivial | exact Joint.goK [3, 0, 1, 0, 0, 0] ((b5, b6), (xa21, xm21, xc21), (xa23, xm23, xc23)) rfl rfl rfl ⟨rfl, rfl, trivial⟩ rfl rfl trivial | exact Joint.goK [2, 2, 1, 0, 0, 0] ((b5, b6), (xa21, xm21, xc21), (xa23, xm23, xc23)) rfl rfl rfl ⟨rfl, rfl, trivial⟩ rfl rfl trivial | exact Joint.goK [1, 2, 1, 0, 0, 0] ((b5, b6), (xa21, xm21, xc21), (xa23, xm23, xc23)) rfl rfl rfl ⟨rfl, rfl, trivial⟩ rfl rfl trivial | exact Joint.goK [0, 2, 1, 0, 0, 0] ((b5, b6), (xa21, xm21, xc21), (xa23, xm23, xc23)) rfl rfl rfl ⟨rfl, rfl, trivial⟩ rfl rfl trivial | exact Joint.goK [2, 1, 1, 0, 0, 0] ((b5, b6), (xa21, xm21, xc21), (xa23, xm23, xc23)) rfl rfl rfl ⟨rfl, rfl, trivial⟩ rfl rfl trivial | exact Joint.goK [2, 0, 1, 0, 0, 0] ((b5, b6), (xa21, xm21, xc21), (xa23, xm23, xc23)) rfl rfl rfl ⟨rfl, rfl, trivial⟩ rfl rfl trivial | exact Joint.goK [1, 1, 1, 0, 0, 0] ((b5, b6), (xa21, xm21, xc21), (xa23, xm23, xc23)) rfl rfl rfl ⟨rfl, rfl, trivial⟩ rfl rfl trivial | exact Joint.goK [0, 1, 1, 0, 0, 0] ((b5, b6), (xa21, xm21, xc21), (xa23, xm23, xc23)) rfl rfl rfl ⟨rfl, rfl, trivial⟩ rfl rfl trivial | exact Joint.goK [1, 0, 1, 0, 0, 0] ((b5, b6), (xa21, xm21, xc21), (xa23, xm23, xc23)) rfl rfl rfl ⟨rfl, rfl, trivial⟩ rfl rfl trivial | exact Joint.goK [0, 0, 1, 0, 0, 0] ((b5, b6), (xa21, xm21, xc21), (xa23, xm23, xc23)) rfl rfl rfl ⟨rfl, rfl, trivial⟩ rfl rfl trivial)
            · refine ABI.s rfl (by decide +kernel) (Stp.alloc ty30 (fun b5 => ?_)) rfl
              refine AB.s 3 rfl (by decide +kernel) (by decide +kernel) (Stp.call rfl Try.call16 (lks rfl) (fun E' le hat => as20_ok E' ⟨_, _, _, _, _, _⟩ _ (Sl.mono (by assumption) le) (by assumption) (by first | assumption | (dsimp only; omega))) ?_) rfl
              rintro _ _ ⟨xa23, xm23, xc23, rfl, rfl⟩
              refine AB.e 6 rfl (by decide +kernel) (by decide +kernel) (Stp.store 1 Try.sizeOf30 (lk rfl) (lk rfl) rfl rfl rfl rfl rfl rfl rfl ?_)
              refine AB.e 7 rfl (by decide +kernel) (by decide +kernel) (Stp.store 3 Try.sizeOf30 (lk rfl) (lk rfl) rfl rfl rfl rfl rfl rfl rfl ?_)
              refine AB.done (by decide +kernel) ?_
              (first | exact Joint.goK [3, 2, 1, 0, 0, 0] ((b5, b6), (xa21, xm21, xc21), (xa23, xm23, xc23)) rfl rfl rfl ⟨rfl, rfl, trivial⟩ rfl rfl trivial | exact Joint.goK [3, 1, 1, 0, 0, 0] ((b5, b6), (xa21, xm21, xc21), (xa23, xm23, xc23)) rfl rfl rfl ⟨rfl, rfl, trivial⟩ rfl rfl trivial | exact Joint.goK [3, 0, 1, 0, 0, 0] ((b5, b6), (xa21, xm21, xc21), (xa23, xm23, xc23)) rfl rfl rfl ⟨rfl, rfl, trivial⟩ rfl rfl trivial | exact Joint.goK [2, 2, 1, 0, 0, 0] ((b5, b6), (xa21, xm21, xc21), (xa23, xm23, xc23)) rfl rfl rfl ⟨rfl, rfl, trivial⟩ rfl rfl trivial | exact Joint.goK [1, 2, 1, 0, 0, 0] ((b5, b6), (xa21, xm21, xc21), (xa23, xm23, xc23)) rfl rfl rfl ⟨rfl, rfl, trivial⟩ rfl rfl trivial | exact Joint.goK [0, 2, 1, 0, 0, 0] ((b5, b6), (xa21, xm21, xc21), (xa23, xm23, xc23)) rfl rfl rfl ⟨rfl, rfl, trivial⟩ rfl rfl trivial | exact Joint.goK [2, 1, 1, 0, 0, 0] ((b5, b6), (xa21, xm21, xc21), (xa23, xm23, xc23)) rfl rfl rfl ⟨rfl, rfl, trivial⟩ rfl rfl trivial | exact Joint.goK [2, 0, 1, 0, 0, 0] ((b5, b6), (xa21, xm21, xc21), (xa23, xm23, xc23)) rfl rfl rfl ⟨rfl, rfl, trivial⟩ rfl rfl trivial | exact Joint.goK [1, 1, 1, 0, 0, 0] ((b5, b6), (xa21, xm21, xc21), (xa23, xm23, xc23)) rfl rfl rfl ⟨rfl, rfl, trivial⟩ rfl rfl trivial | exact Joint.goK [0, 1, 1, 0, 0, 0] ((b5, b6), (xa21, xm21, xc21), (xa23, xm23, xc23)) rfl rfl rfl ⟨rfl, rfl, trivial⟩ rfl rfl trivial | exact Joint.goK [1, 0, 1, 0, 0, 0] ((b5, b6), (xa21, xm21, xc21), (xa23, xm23, xc23)) rfl rfl rfl ⟨rfl, rfl, trivial⟩ rfl rfl trivial | exact Joint.goK [0, 0, 1, 0, 0, 0] ((b5, b6), (xa21, xm21, xc21), (xa23, xm23, xc23)) rfl rfl rfl ⟨rfl, rfl, trivial⟩ rfl rfl trivial)
          · refine ABI.s rfl (by decide +kernel) (Stp.alloc ty30 (fun b5 => ?_)) rfl
            refine AB.s 1 rfl (by decide +kernel) (by decide +kernel) (Stp.call rfl Try.call16 (lks rfl) (fun E' le hat => as20_ok E' ⟨_, _, _, _, _, _⟩ _ (Sl.mono (by assumption) le) (by assumption) (by first | assumption | (dsimp only; omega))) ?_) rfl
            rintro _ _ ⟨xa21, xm21, xc21, rfl, rfl⟩
            refine AB.s 3 rfl (by decide +kernel) (by decide +kernel) (Stp.call rfl Try.call16 (lks rfl) (fun E' le hat => as20_ok E' ⟨_, _, _, _, _, _⟩ _ (Sl.mono (by assumption) le) (by assumption) (by first | assumption | (dsimp only; omega))) ?_) rfl
            rintro _ _ ⟨xa23, xm23, xc23, rfl, rfl⟩
            refine AB.e 6 rfl (by decide +kernel) (by decide +kernel) (Stp.store 2 Try.sizeOf30 (lk rfl) (lk rfl) rfl rfl rfl rfl rfl rfl rfl ?_)
            refine AB.e 7 rfl (by decide +kernel) (by decide +kernel) (Stp.store 3 Try.sizeOf30 (lk rfl) (lk rfl) rfl rfl rfl rfl rfl rfl rfl ?_)
            refine AB.done (by decide +kernel) ?_
            (first | exact Joint.goK [3, 2, 1, 0, 0, 0] ((b5, b6), (xa21, xm21, xc21), (xa23, xm23, xc23)) rfl rfl rfl ⟨rfl, rfl, trivial⟩ rfl rfl trivial | exact Joint.goK [3, 1, 1, 0, 0, 0] ((b5, b6), (xa21, xm21, xc21), (xa23, xm23, xc23)) rfl rfl rfl ⟨rfl, rfl, trivial⟩ rfl rfl trivial | exact Joint.goK [3, 0, 1, 0, 0, 0] ((b5, b6), (xa21, xm21, xc21), (xa23, xm23, xc23)) rfl rfl rfl ⟨rfl, rfl, trivial⟩ rfl rfl trivial | exact Joint.goK [2, 2, 1, 0, 0, 0] ((b5, b6), (xa21, xm21, xc21), (xa23, xm23, xc23)) rfl rfl rfl ⟨rfl, rfl, trivial⟩ rfl rfl trivial | exact Joint.goK [1, 2, 1, 0, 0, 0] ((b5, b6), (xa21, xm21, xc21), (xa23, xm23, xc23)) rfl rfl rfl ⟨rfl, rfl, trivial⟩ rfl rfl trivial | exact Joint.goK [0, 2, 1, 0, 0, 0] ((b5, b6), (xa21, xm21, xc21), (xa23, xm23, xc23)) rfl rfl rfl ⟨rfl, rfl, trivial⟩ rfl rfl trivial | exact Joint.goK [2, 1, 1, 0, 0, 0] ((b5, b6), (xa21, xm21, xc21), (xa23, xm23, xc23)) rfl rfl rfl ⟨rfl, rfl, trivial⟩ rfl rfl trivial | exact Joint.goK [2, 0, 1, 0, 0, 0] ((b5, b6), (xa21, xm21, xc21), (xa23, xm23, xc23)) rfl rfl rfl ⟨rfl, rfl, trivial⟩ rfl rfl trivial | exact Joint.goK [1, 1, 1, 0, 0, 0] ((b5, b6), (xa21, xm21, xc21), (xa23, xm23, xc23)) rfl rfl rfl ⟨rfl, rfl, trivial⟩ rfl rfl trivial | exact Joint.goK [0, 1, 1, 0, 0, 0] ((b5, b6), (xa21, xm21, xc21), (xa23, xm23, xc23)) rfl rfl rfl ⟨rfl, rfl, trivial⟩ rfl rfl trivial | exact Joint.goK [1, 0, 1, 0, 0, 0] ((b5, b6), (xa21, xm21, xc21), (xa23, xm23, xc23)) rfl rfl rfl ⟨rfl, rfl, trivial⟩ rfl rfl trivial | exact Joint.goK [0, 0, 1, 0, 0, 0] ((b5, b6), (xa21, xm21, xc21), (xa23, xm23, xc23)) rfl rfl rfl ⟨rfl, rfl, trivial⟩ rfl rfl trivial)
      · rintro ⟨⟨b5, b6⟩, ⟨xa, xm, xc⟩, ⟨ya, ym, yc⟩⟩ u _
        dsimp only
        refine Body.seq ?_
        refine Body.region ?_
        refine Ops.d (Det.lda Try.isAgg24 Try.sizeOf24 (lk rfl) (Rds.ow (m := 6) 5 rfl rfl) rfl) rfl ?_
        refine Ops.d (Det.lda Try.isAgg24 Try.sizeOf24 (lk rfl) (Rds.ow (m := 6) 4 rfl rfl) rfl) rfl ?_
        refine Ops.s (Stp.call rfl Try.call17 (lks rfl) (fun E' le hat => diff_any E' (View.mk vr vc cells vo vl vv) (View.mk wr wc dells wo wl wv) _ _ (Sl.mono hv le) (Sl.mono ho le)) ?_) rfl
        rintro _ _ ⟨s27, rfl, rfl⟩
        refine Ops.u (Dtu.mv (lk rfl)) rfl ?_
        refine Ops.u (Dtu.ext (lk rfl) rfl) rfl ?_
        refine Ops.u (Dtu.ext (lk rfl) rfl) rfl ?_
        refine Ops.u (Dtu.asg (lk rfl)) rfl ?_
        refine Ops.u (Dtu.asg (lk rfl)) rfl ?_
        refine Ops.nil ?_
        refine Then.next ?_
        refine Body.seq ?_
        refine Body.seq ?_
        refine Body.region ?_
        refine Ops.d (Det.lda Try.isAgg30 Try.sizeOf30 (lk rfl) (Rds.ow (m := 6) 1 rfl rfl) rfl) rfl ?_
        refine Ops.s (Stp.call rfl Try.call18 (lks rfl) (fun E' le hat => rright_ok E' (View.mk vr vc cells vo vl vv) (.slice xa xm xc) (Sl.at (hat _ (.tail _ (.tail _ (.tail _ (.head _)))))) gv) ?_) rfl
        rintro _ _ ⟨rfl, rfl⟩
        cases ka : View.ok (View.mk vr vc cells vo vl vv) with
        | false =>
          have e1 : difW (View.mk vr vc cells vo vl vv) (View.mk wr wc dells wo wl wv) = [] := by simp [difW, ka]
          have e2 : difE (View.mk vr vc cells vo vl vv) (View.mk wr wc dells wo wl wv) = 3 := by simp [difE, ka]
          refine Ops.u (Dtu.not (lk rfl)) rfl ?_
          refine Ops.u (Dtu.mv (lk rfl)) rfl ?_
          refine Ops.gn rfl rfl rfl rfl rfl ?_
          refine Ops.gn rfl rfl rfl rfl rfl ?_
          refine Ops.gn rfl rfl rfl rfl rfl ?_
          refine Ops.u (Dtu.pickT (lk rfl) (lk rfl)) rfl ?_
          refine Ops.nil ?_
          refine Then.next ?_
          refine Body.condT (lk rfl) ?_
          refine Body.seq ?_
          refine Body.region ?_
          refine Ops.s (Stp.call rfl Try.call15 (lks rfl) (fun E' le hat => alive21_ok E') ?_) rfl
          rintro _ _ ⟨rfl, rfl⟩
          refine Ops.u (Dtu.mv (lk rfl)) rfl ?_
          refine Ops.gu rfl rfl rfl (Dtu.mv (lk rfl)) rfl ?_
          refine Ops.gu rfl rfl rfl (Dtu.eql (lk rfl) (lk rfl)) rfl ?_
          refine Ops.u (Dtu.pickT (lk rfl) (lk rfl)) rfl ?_
          refine Ops.u (Dtu.mv (lk rfl)) rfl ?_
          refine Ops.decP 43 rfl (fun _ => ?_) (fun hn => absurd (by first | omega | assumption | decide) hn)
          refine Ops.gu rfl rfl rfl (Dtu.mv (lk rfl)) rfl ?_
          refine Ops.gu rfl rfl rfl (Dtu.lenS Try.underlying32 (Sl.osl 0 rfl) (lk rfl)) rfl ?_
          refine Ops.gu rfl rfl rfl (Dtu.eql (lk rfl) (lk rfl)) rfl ?_
          refine Ops.u (Dtu.pickT (lk rfl) (lk rfl)) rfl ?_
          refine Ops.u (Dtu.asg (lk rfl)) rfl ?_
          refine Ops.nil ?_
          refine Then.next ?_
          refine Body.ret ?_
          refine Then.ret ?_
          exact ⟨.inr rfl, _, pk [] rfl, bool_eq (by simp [e1]), rfl⟩
        | true =>
          refine Ops.u (Dtu.not (lk rfl)) rfl ?_
          refine Ops.u (Dtu.mv (lk rfl)) rfl ?_
          refine Ops.gd rfl rfl rfl (Det.lda Try.isAgg30 Try.sizeOf30 (lk rfl) (Rds.ow (m := 6) 2 rfl rfl) rfl) rfl ?_
          refine Ops.gs rfl rfl rfl (Stp.call rfl Try.call18 (lks rfl) (fun E' le hat => rright_ok E' (View.mk wr wc dells wo wl wv) (.slice ya ym yc) (Sl.at (hat _ (.tail _ (.tail _ (.tail _ (.tail _ (.head _))))))) go) ?_) rfl
          rintro _ _ ⟨rfl, rfl⟩
          cases kb : View.ok (View.mk wr wc dells wo wl wv) with
          | false =>
            have e1 : difW (View.mk vr vc cells vo vl vv) (View.mk wr wc dells wo wl wv) = [] := by simp [difW, kb]
            have e2 : difE (View.mk vr vc cells vo vl vv) (View.mk wr wc dells wo wl wv) = 3 := by simp [difE, kb]
            refine Ops.gu rfl rfl rfl (Dtu.not (lk rfl)) rfl ?_
            refine Ops.u (Dtu.pickF (lk rfl) (lk rfl)) rfl ?_
            refine Ops.nil ?_
            refine Then.next ?_
            refine Body.condT (lk rfl) ?_
            refine Body.seq ?_
            refine Body.region ?_
            refine Ops.s (Stp.call rfl Try.call15 (lks rfl) (fun E' le hat => alive21_ok E') ?_) rfl
            rintro _ _ ⟨rfl, rfl⟩
            refine Ops.u (Dtu.mv (lk rfl)) rfl ?_
            refine Ops.gu rfl rfl rfl (Dtu.mv (lk rfl)) rfl ?_
            refine Ops.gu rfl rfl rfl (Dtu.eql (lk rfl) (lk rfl)) rfl ?_
            refine Ops.u (Dtu.pickT (lk rfl) (lk rfl)) rfl ?_
            refine Ops.u (Dtu.mv (lk rfl)) rfl ?_
            refine Ops.decP 43 rfl (fun _ => ?_) (fun hn => absurd (by first | omega | assumption | decide) hn)
            refine Ops.gu rfl rfl rfl (Dtu.mv (lk rfl)) rfl ?_
            refine Ops.gu rfl rfl rfl (Dtu.lenS Try.underlying32 (Sl.osl 0 rfl) (lk rfl)) rfl ?_
            refine Ops.gu rfl rfl rfl (Dtu.eql (lk rfl) (lk rfl)) rfl ?_
            refine Ops.u (Dtu.pickT (lk rfl) (lk rfl)) rfl ?_
            refine Ops.u (Dtu.asg (lk rfl)) rfl ?_
            refine Ops.nil ?_
            refine Then.next ?_
            refine Body.ret ?_
            refine Then.ret ?_
            exact ⟨.inr rfl, _, pk [] rfl, bool_eq (by simp [e1]), rfl⟩
          | true =>
            have e1 : difW (View.mk vr vc cells vo vl vv) (View.mk wr wc dells wo wl wv) = difB (View.mk vr vc cells vo vl vv) (View.mk wr wc dells wo wl wv) := by simp [difW, ka, kb]
            have e2 : difE (View.mk vr vc cells vo vl vv) (View.mk wr wc dells wo wl wv) = 0 := by simp [difE, ka, kb]
            refine Ops.gu rfl rfl rfl (Dtu.not (lk rfl)) rfl ?_
            refine Ops.u (Dtu.pickF (lk rfl) (lk rfl)) rfl ?_
            refine Ops.nil ?_
            refine Then.next ?_
            refine Body.condF (lk rfl) ?_
            refine Body.skip ?_
            refine Then.next ?_
            refine Body.seq ?_
            refine Body.draw mixed ?_
            refine AB.s 0 rfl (by decide +kernel) (by decide +kernel) (Stp.call rfl Try.call15 (lks rfl) (fun E' le hat => alive21_ok E') ?_) rfl
            rintro _ _ ⟨rfl, rfl⟩
            refine AB.u 1 rfl (by decide +kernel) (Dtu.mv (lk rfl)) rfl ?_
            refine AB.gu 2 rfl (by decide +kernel) rfl rfl rfl (Dtu.mv (lk rfl)) rfl ?_
            refine AB.gu 3 rfl (by decide +kernel) rfl rfl rfl (Dtu.eql (lk rfl) (lk rfl)) rfl ?_
            refine AB.u 4 rfl (by decide +kernel) (Dtu.pickT (lk rfl) (lk rfl)) rfl ?_
            refine AB.u 5 rfl (by decide +kernel) (Dtu.mv (lk rfl)) rfl ?_
            refine AB.decP 53 rfl (fun _ => ?_) (fun hn => absurd (by first | omega | assumption | decide) hn)
            refine AB.gu 6 rfl (by decide +kernel) rfl rfl rfl (Dtu.mv (lk rfl)) rfl ?_
            refine AB.gd 7 rfl (by decide +kernel) rfl rfl rfl rfl (Det.bstr Try.underlying32 Try.underlying5 Try.underlying9 (lk rfl) (Sl.osl 0 rfl)) rfl ?_
            refine AB.gd 8 rfl (by decide +kernel) rfl rfl rfl rfl (Det.lda Try.isAgg30 Try.sizeOf30 (lk rfl) (Rds.ow (m := 6) 1 rfl rfl) rfl) rfl ?_
            refine AB.gd 9 rfl (by decide +kernel) rfl rfl rfl rfl (Det.lda Try.isAgg30 Try.sizeOf30 (lk rfl) (Rds.ow (m := 6) 2 rfl rfl) rfl) rfl ?_
            refine AB.gs 10 rfl (by decide +kernel) (by decide +kernel) rfl rfl rfl (Stp.call rfl Try.call19 (lks rfl) (fun E' le hat => rdiff_ok E' (View.mk vr vc cells vo vl vv) (View.mk wr wc dells wo wl wv) _ _ (Sl.at (hat _ (.tail _ (.tail _ (.tail _ (.head _)))))) (Sl.at (hat _ (.tail _ (.tail _ (.tail _ (.tail _ (.head _))))))) ka kb fv fo) ?_) rfl
            rintro _ _ ⟨s58, rfl, rfl⟩
            refine AB.gd 11 rfl (by decide +kernel) rfl rfl rfl rfl (Det.bstr Try.underlying32 Try.underlying5 Try.underlying9 (lk rfl) (Sl.osl 0 rfl)) rfl ?_
            refine AB.gu 12 rfl (by decide +kernel) rfl rfl rfl (Dtu.eqStr (lk rfl) (lk rfl)) rfl ?_
            refine AB.u 13 rfl (by decide +kernel) (Dtu.pickT (lk rfl) (lk rfl)) rfl ?_
            refine AB.u 14 rfl (by decide +kernel) (Dtu.asg (lk rfl)) rfl ?_
            refine AB.done (by decide +kernel) ?_
            refine Then.next ?_
            refine Body.ret ?_
            exact ⟨.inr rfl, _, pk [] rfl, bool_eq (by simp [e1]), rfl⟩
end Go.Proofs.Ytijjjdljdjnbaaa
end
