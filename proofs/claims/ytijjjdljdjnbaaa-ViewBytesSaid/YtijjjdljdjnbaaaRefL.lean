/- ViewBytes: what it computes. -/
import Derived.Test.YtijjjdljdjnbaaaRefK
namespace Go.Proofs.Ytijjjdljdjnbaaa
set_option maxRecDepth 100000
set_option linter.unusedVariables false
set_option linter.unusedSimpArgs false
open Go.Sx

def rdK (bs : List Int) : Bool := (readV bs).isSome
theorem rread_any (E : Env) (b : Value) (bs : List Int) (h : Sl E [] 1 b bs.length (bs.map (.int .u8))) (hb : Byt bs) : Does Try.prog 30 #[b] E [] fun r H' => ∃ s, r = .tuple #[(rdV bs).val s, .bool (rdK bs)] ∧ H' = [osl 65 11 s (rdV bs).cells.length ((rdV bs).cells.flatMap Cell.renc)] := by
  have h1 := rread_ok E b bs h hb
  cases hr : readV bs with
  | some v =>
    have e1 : rdV bs = v := by simp [rdV, hr]
    have e2 : rdK bs = true := by simp [rdK, hr]
    rw [e1, e2]
    rw [hr] at h1
    exact h1
  | none =>
    have e1 : rdV bs = View.none := by simp [rdV, hr]
    have e2 : rdK bs = false := by simp [rdK, hr]
    rw [e1, e2]
    rw [hr] at h1
    intro w s0
    refine (h1 w s0).mono ?_
    rintro e w' ⟨r, H', he, ⟨rfl, rfl⟩, s'⟩
    exact ⟨_, _, he, ⟨_, rfl, rfl⟩, osl_nil s'⟩
theorem rdV_fl (bs : List Int) (hb : Byt bs) : ∀ c ∈ (rdV bs).cells, c.Fl := by
  unfold rdV readV
  split
  · intro c hc; simp [View.none] at hc
  · split
    · exact readCells_fl bs hb (bs.length + 1) [] 5 (by simp)
    · intro c hc; simp [View.none] at hc
theorem rdV_len (bs : List Int) : (rdV bs).cells.length ≤ 480 := by
  cases hr : readV bs with
  | none => simp [rdV, hr, View.none]
  | some q =>
    obtain ⟨k1, k2⟩ := readV_some hr
    have h := (View.ok_fits k1).1
    have := mul_bound h.1
    have := h.2.2.2.2.2
    simp only [rdV, hr, Option.getD_some]
    omega
theorem rdE_K (bs : List Int) : decide (rdE bs = 0) = rdK bs := by
  cases hr : readV bs <;> simp [rdE, rdK, hr]
set_option maxHeartbeats 3200000 in
theorem bytes_ok (E : Env) (v o : View) (s t b : Value) (bs : List Int) (hv : v.has E [] s) (ho : o.has E [] t) (hb : Sl E [] 1 b bs.length (bs.map (.int .u8))) (hbt : Byt bs) (fv : ∀ c ∈ v.cells, c.Fl) (fo : ∀ c ∈ o.cells, c.Fl) (gv : ∀ c ∈ v.cells, c.Cols) :
    Does Try.prog 7 #[v.val s, o.val t, b] E [] fun r H' => r = .bool true ∧ H' = [] := by
  have bv := wB_byt fv
  have rf := rdV_fl bs hbt
  have rn := rdV_len bs
  have rk := rdE_K bs
  obtain ⟨vr, vc, cells, vo, vl, vv⟩ := v
  obtain ⟨wr, wc, dells, wo, wl, wv⟩ := o
  unfold View.has at hv ho
  dsimp only at hv ho fv fo gv
  refine Does.pure hv.isSl fun hsl => ?_
  obtain ⟨sa, sm, sc, rfl⟩ := hsl
  refine Does.pure ho.isSl fun hsl => ?_
  obtain ⟨ta, tm, tc, rfl⟩ := hsl
  refine Does.go (args := [View.val ⟨vr, vc, cells, vo, vl, vv⟩ (.slice sa sm sc), View.val ⟨wr, wc, dells, wo, wl, wv⟩ (.slice ta tm tc), b]) _ _ Try.func7 rfl Try.ntmps7 rfl rfl ?_
  refine Body.seq ?_
  refine Body.region ?_
  refine Ops.s (Stp.box (lk rfl) rfl (fun b3 => ?_)) rfl
  refine Ops.s (Stp.box (lk rfl) rfl (fun b4 => ?_)) rfl
  refine Ops.u (Dtu.asg (lk rfl)) rfl ?_
  refine Ops.nil ?_
  refine Then.next ?_
  refine Body.seq ?_
  refine Body.seq ?_
  refine Body.region ?_
  refine Ops.u (Dtu.fld fa24_2 (lk rfl)) rfl ?_
  refine Ops.d (Det.ld Try.isAgg22 (lk rfl) (Rd.ow 1 rfl rfl)) rfl ?_
  refine Ops.u (Dtu.lenS Try.underlying22 (Sl.up hv) (lk rfl)) rfl ?_
  refine Ops.u (Dtu.gtr (lk rfl) (lk rfl)) rfl ?_
  refine Ops.u (Dtu.mv (lk rfl)) rfl ?_
  refine Ops.decP 19 rfl (fun c19 => ?_) (fun c19 => ?_)
  · refine Ops.gn rfl rfl rfl rfl rfl ?_
    refine Ops.gn rfl rfl rfl rfl rfl ?_
    refine Ops.gn rfl rfl rfl rfl rfl ?_
    refine Ops.gn rfl rfl rfl rfl rfl ?_
    refine Ops.u (Dtu.pickT (lk rfl) (lk rfl)) rfl ?_
    refine Ops.u (Dtu.mv (lk rfl)) rfl ?_
    refine Ops.gn rfl rfl rfl rfl rfl ?_
    refine Ops.gn rfl rfl rfl rfl rfl ?_
    refine Ops.gn rfl rfl rfl rfl rfl ?_
    refine Ops.u (Dtu.pickT (lk rfl) (lk rfl)) rfl ?_
    refine Ops.nil ?_
    refine Then.next ?_
    refine Body.condT (lk rfl) ?_
    refine Body.seq ?_
    refine Body.region ?_
    refine Ops.s (Stp.call rfl Try.call27 (lks rfl) (fun E' le hat => alive20_ok E') ?_) rfl
    rintro _ _ ⟨rfl, rfl⟩
    refine Ops.u (Dtu.asg (lk rfl)) rfl ?_
    refine Ops.nil ?_
    refine Then.next ?_
    refine Body.ret ?_
    refine Then.ret ?_
    exact ⟨.inr rfl, _, pk [] rfl, rfl, rfl⟩
  · refine Ops.gu rfl rfl rfl (Dtu.fld fa24_2 (lk rfl)) rfl ?_
    refine Ops.gd rfl rfl rfl (Det.ld Try.isAgg22 (lk rfl) (Rd.ow 0 rfl rfl)) rfl ?_
    refine Ops.gu rfl rfl rfl (Dtu.lenS Try.underlying22 (Sl.up ho) (lk rfl)) rfl ?_
    refine Ops.gu rfl rfl rfl (Dtu.gtr (lk rfl) (lk rfl)) rfl ?_
    refine Ops.u (Dtu.pickF (lk rfl) (lk rfl)) rfl ?_
    refine Ops.u (Dtu.mv (lk rfl)) rfl ?_
    refine Ops.decP 25 rfl (fun c25 => ?_) (fun c25 => ?_)
    · refine Ops.gn rfl rfl rfl rfl rfl ?_
      refine Ops.gn rfl rfl rfl rfl rfl ?_
      refine Ops.gn rfl rfl rfl rfl rfl ?_
      refine Ops.u (Dtu.pickT (lk rfl) (lk rfl)) rfl ?_
      refine Ops.nil ?_
      refine Then.next ?_
      refine Body.condT (lk rfl) ?_
      refine Body.seq ?_
      refine Body.region ?_
      refine Ops.s (Stp.call rfl Try.call27 (lks rfl) (fun E' le hat => alive20_ok E') ?_) rfl
      rintro _ _ ⟨rfl, rfl⟩
      refine Ops.u (Dtu.asg (lk rfl)) rfl ?_
      refine Ops.nil ?_
      refine Then.next ?_
      refine Body.ret ?_
      refine Then.ret ?_
      exact ⟨.inr rfl, _, pk [] rfl, rfl, rfl⟩
    · refine Ops.gu rfl rfl rfl (Dtu.mv (lk rfl)) rfl ?_
      refine Ops.gu rfl rfl rfl (Dtu.lenS Try.underlying32 (Sl.up hb) (lk rfl)) rfl ?_
      refine Ops.gu rfl rfl rfl (Dtu.gtr (lk rfl) (lk rfl)) rfl ?_
      refine Ops.u (Dtu.pickF (lk rfl) (lk rfl)) rfl ?_
      refine Ops.nil ?_
      refine Then.next ?_
      refine Body.condP (lk rfl) (fun c29 => ?_) (fun c29 => ?_)
      · refine Body.seq ?_
        refine Body.region ?_
        refine Ops.s (Stp.call rfl Try.call27 (lks rfl) (fun E' le hat => alive20_ok E') ?_) rfl
        rintro _ _ ⟨rfl, rfl⟩
        refine Ops.u (Dtu.asg (lk rfl)) rfl ?_
        refine Ops.nil ?_
        refine Then.next ?_
        refine Body.ret ?_
        refine Then.ret ?_
        exact ⟨.inr rfl, _, pk [] rfl, rfl, rfl⟩
      · refine Body.skip ?_
        refine Then.next ?_
        refine Body.seqJ (γ := (Nat × Nat) × (Option Addr × Nat × Nat) × (Option Addr × Nat × Nat)) rfl (fun g => [(7, .pointer (some ⟨g.1.1, 0, none⟩)), (8, .pointer (some ⟨g.1.2, 0, none⟩))])
          (fun g => [own g.1.1 [.int .i64 vr, .int .i64 vc, .slice g.2.1.1 g.2.1.2.1 g.2.1.2.2, .int .i64 vo, .int .i64 vl, .bool vv] 30, own g.1.2 [.int .i64 wr, .int .i64 wc, .slice g.2.2.1 g.2.2.2.1 g.2.2.2.2, .int .i64 wo, .int .i64 wl, .bool wv] 30,
            osl 65 11 (.slice g.2.1.1 g.2.1.2.1 g.2.1.2.2) cells.length (cells.flatMap Cell.renc), osl 65 11 (.slice g.2.2.1 g.2.2.2.1 g.2.2.2.2) dells.length (dells.flatMap Cell.renc),
            own b4 [.int .i64 wr, .int .i64 wc, .slice ta tm tc, .int .i64 wo, .int .i64 wl, .bool wv] 24, own b3 [.int .i64 vr, .int .i64 vc, .slice sa sm sc, .int .i64 vo, .int .i64 vl, .bool vv] 24]) (fun _ => True) ?_ ?_
        · refine Body.draw mixed ?_
          refine AB.d 0 rfl (by decide +kernel) rfl (Det.lda Try.isAgg24 Try.sizeOf24 (lk rfl) (Rds.ow (m := 6) 1 rfl rfl) rfl) rfl ?_
          refine AB.d 2 rfl (by decide +kernel) rfl (Det.lda Try.isAgg24 Try.sizeOf24 (lk rfl) (Rds.ow (m := 6) 0 rfl rfl) rfl) rfl ?_
          refine AB.more [1, 4, 5] (by decide +kernel) rfl ⟨?_, ?_, ?_, trivial⟩
          · refine ABI.s rfl (by decide +kernel) (Stp.call rfl Try.call16 (lks rfl) (fun E' le hat => as20_ok E' ⟨_, _, _, _, _, _⟩ _ (Sl.mono (by assumption) le) (by assumption) (by first | assumption | (dsimp only; omega))) ?_) rfl
            rintro _ _ ⟨xa32, xm32, xc32, rfl, rfl⟩
            refine AB.more [3, 4, 5] (by decide +kernel) rfl ⟨?_, ?_, ?_, trivial⟩
            · refine ABI.s rfl (by decide +kernel) (Stp.call rfl Try.call16 (lks rfl) (fun E' le hat => as20_ok E' ⟨_, _, _, _, _, _⟩ _ (Sl.mono (by assumption) le) (by assumption) (by first | assumption | (dsimp only; omega))) ?_) rfl
              rintro _ _ ⟨xa34, xm34, xc34, rfl, rfl⟩
              refine AB.more [4, 5] (by decide +kernel) rfl ⟨?_, ?_, trivial⟩
              · refine ABI.s rfl (by decide +kernel) (Stp.alloc ty30 (fun b7 => ?_)) rfl
                refine AB.s 5 rfl (by decide +kernel) (by decide +kernel) (Stp.alloc ty30 (fun b8 => ?_)) rfl
                refine AB.e 6 rfl (by decide +kernel) (by decide +kernel) (Stp.store 1 Try.sizeOf30 (lk rfl) (lk rfl) rfl rfl rfl rfl rfl rfl rfl ?_)
                refine AB.e 7 rfl (by decide +kernel) (by decide +kernel) (Stp.store 0 Try.sizeOf30 (lk rfl) (lk rfl) rfl rfl rfl rfl rfl rfl rfl ?_)
                refine AB.done (by decide +kernel) ?_
                (first | exact Joint.goK [3, 2, 1, 0, 0, 0] ((b7, b8), (xa32, xm32, xc32), (xa34, xm34, xc34)) rfl rfl rfl ⟨rfl, rfl, trivial⟩ rfl rfl trivial | exact Joint.goK [3, 1, 1, 0, 0, 0] ((b7, b8), (xa32, xm32, xc32), (xa34, xm34, xc34)) rfl rfl rfl ⟨rfl, rfl, trivial⟩ rfl rfl trivial | exact Joint.goK [3, 0, 1, 0, 0, 0] ((b7, b8), (xa32, xm32, xc32), (xa34, xm34, xc34)) rfl rfl rfl ⟨rfl, rfl, trivial⟩ rfl rfl trivial | exact Joint.goK [2, 2, 1, 0, 0, 0] ((b7, b8), (xa32, xm32, xc32), (xa34, xm34, xc34)) rfl rfl rfl ⟨rfl, rfl, trivial⟩ rfl rfl trivial | exact Joint.goK [1, 2, 1, 0, 0, 0] ((b7, b8), (xa32, xm32, xc32), (xa34, xm34, xc34)) rfl rfl rfl ⟨rfl, rfl, trivial⟩ rfl rfl trivial | exact Joint.goK [0, 2, 1, 0, 0, 0] ((b7, b8), (xa32, xm32, xc32), (xa34, xm34, xc34)) rfl rfl rfl ⟨rfl, rfl, trivial⟩ rfl rfl trivial | exact Joint.goK [2, 1, 1, 0, 0, 0] ((b7, b8), (xa32, xm32, xc32), (xa34, xm34, xc34)) rfl rfl rfl ⟨rfl, rfl, trivial⟩ rfl rfl trivial | exact Joint.goK [2, 0, 1, 0, 0, 0] ((b7, b8), (xa32, xm32, xc32), (xa34, xm34, xc34)) rfl rfl rfl ⟨rfl, rfl, trivial⟩ rfl rfl trivial | exact Joint.goK [1, 1, 1, 0, 0, 0] ((b7, b8), (xa32, xm32, xc32), (xa34, xm34, xc34)) rfl rfl rfl ⟨rfl, rfl, trivial⟩ rfl rfl trivial | exact Joint.goK [0, 1, 1, 0, 0, 0] ((b7, b8), (xa32, xm32, xc32), (xa34, xm34, xc34)) rfl rfl rfl ⟨rfl, rfl, trivial⟩ rfl rfl trivial | exact Joint.goK [1, 0, 1, 0, 0, 0] ((b7, b8), (xa32, xm32, xc32), (xa34, xm34, xc34)) rfl rfl rfl ⟨rfl, rfl, trivial⟩ rfl rfl trivial | exact Joint.goK [0, 0, 1, 0, 0, 0] ((b7, b8), (xa32, xm32, xc32), (xa34, xm34, xc34)) rfl rfl rfl ⟨rfl, rfl, trivial⟩ rfl rfl trivial)
              · refine ABI.s rfl (by decide +kernel) (Stp.alloc ty30 (fun b8 => ?_)) rfl
                refine AB.s 4 rfl (by decide +kernel) (by decide +kernel) (Stp.alloc ty30 (fun b7 => ?_)) rfl
                refine AB.e 6 rfl (by decide +kernel) (by decide +kernel) (Stp.store 0 Try.sizeOf30 (lk rfl) (lk rfl) rfl rfl rfl rfl rfl rfl rfl ?_)
                refine AB.e 7 rfl (by decide +kernel) (by decide +kernel) (Stp.store 1 Try.sizeOf30 (lk rfl) (lk rfl) rfl rfl rfl rfl rfl rfl rfl ?_)
                refine AB.done (by decide +kernel) ?_
                (first | exact Joint.goK [3, 2, 1, 0, 0, 0] ((b7, b8), (xa32, xm32, xc32), (xa34, xm34, xc34)) rfl rfl rfl ⟨rfl, rfl, trivial⟩ rfl rfl trivial | exact Joint.goK [3, 1, 1, 0, 0, 0] ((b7, b8), (xa32, xm32, xc32), (xa34, xm34, xc34)) rfl rfl rfl ⟨rfl, rfl, trivial⟩ rfl rfl trivial | exact Joint.goK [3, 0, 1, 0, 0, 0] ((b7, b8), (xa32, xm32, xc32), (xa34, xm34, xc34)) rfl rfl rfl ⟨rfl, rfl, trivial⟩ rfl rfl trivial | exact Joint.goK [2, 2, 1, 0, 0, 0] ((b7, b8), (xa32, xm32, xc32), (xa34, xm34, xc34)) rfl rfl rfl ⟨rfl, rfl, trivial⟩ rfl rfl trivial | exact Joint.goK [1, 2, 1, 0, 0, 0] ((b7, b8), (xa32, xm32, xc32), (xa34, xm34, xc34)) rfl rfl rfl ⟨rfl, rfl, trivial⟩ rfl rfl trivial | exact Joint.goK [0, 2, 1, 0, 0, 0] ((b7, b8), (xa32, xm32, xc32), (xa34, xm34, xc34)) rfl rfl rfl ⟨rfl, rfl, trivial⟩ rfl rfl trivial | exact Joint.goK [2, 1, 1, 0, 0, 0] ((b7, b8), (xa32, xm32, xc32), (xa34, xm34, xc34)) rfl rfl rfl ⟨rfl, rfl, trivial⟩ rfl rfl trivial | exact Joint.goK [2, 0, 1, 0, 0, 0] ((b7, b8), (xa32, xm32, xc32), (xa34, xm34, xc34)) rfl rfl rfl ⟨rfl, rfl, trivial⟩ rfl rfl trivial | exact Joint.goK [1, 1, 1, 0, 0, 0] ((b7, b8), (xa32, xm32, xc32), (xa34, xm34, xc34)) rfl rfl rfl ⟨rfl, rfl, trivial⟩ rfl rfl trivial | exact Joint.goK [0, 1, 1, 0, 0, 0] ((b7, b8), (xa32, xm32, xc32), (xa34, xm34, xc34)) rfl rfl rfl ⟨rfl, rfl, trivial⟩ rfl rfl trivial | exact Joint.goK [1, 0, 1, 0, 0, 0] ((b7, b8), (xa32, xm32, xc32), (xa34, xm34, xc34)) rfl rfl rfl ⟨rfl, rfl, trivial⟩ rfl rfl trivial | exact Joint.goK [0, 0, 1, 0, 0, 0] ((b7, b8), (xa32, xm32, xc32), (xa34, xm34, xc34)) rfl rfl rfl ⟨rfl, rfl, trivial⟩ rfl rfl trivial)
            · refine ABI.s rfl (by decide +kernel) (Stp.alloc ty30 (fun b7 => ?_)) rfl
              refine AB.more [3, 5] (by decide +kernel) rfl ⟨?_, ?_, trivial⟩
              · refine ABI.s rfl (by decide +kernel) (Stp.call rfl Try.call16 (lks rfl) (fun E' le hat => as20_ok E' ⟨_, _, _, _, _, _⟩ _ (Sl.mono (by assumption) le) (by assumption) (by first | assumption | (dsimp only; omega))) ?_) rfl
                rintro _ _ ⟨xa34, xm34, xc34, rfl, rfl⟩
                refine AB.s 5 rfl (by decide +kernel) (by decide +kernel) (Stp.alloc ty30 (fun b8 => ?_)) rfl
                refine AB.e 6 rfl (by decide +kernel) (by decide +kernel) (Stp.store 2 Try.sizeOf30 (lk rfl) (lk rfl) rfl rfl rfl rfl rfl rfl rfl ?_)
                refine AB.e 7 rfl (by decide +kernel) (by decide +kernel) (Stp.store 0 Try.sizeOf30 (lk rfl) (lk rfl) rfl rfl rfl rfl rfl rfl rfl ?_)
                refine AB.done (by decide +kernel) ?_
                (first | exact Joint.goK [3, 2, 1, 0, 0, 0] ((b7, b8), (xa32, xm32, xc32), (xa34, xm34, xc34)) rfl rfl rfl ⟨rfl, rfl, trivial⟩ rfl rfl trivial | exact Joint.goK [3, 1, 1, 0, 0, 0] ((b7, b8), (xa32, xm32, xc32), (xa34, xm34, xc34)) rfl rfl rfl ⟨rfl, rfl, trivial⟩ rfl rfl trivial | exact Joint.goK [3, 0, 1, 0, 0, 0] ((b7, b8), (xa32, xm32, xc32), (xa34, xm34, xc34)) rfl rfl rfl ⟨rfl, rfl, trivial⟩ rfl rfl trivial | exact Joint.goK [2, 2, 1, 0, 0, 0] ((b7, b8), (xa32, xm32, xc32), (xa34, xm34, xc34)) rfl rfl rfl ⟨rfl, rfl, trivial⟩ rfl rfl trivial | exact Joint.goK [1, 2, 1, 0, 0, 0] ((b7, b8), (xa32, xm32, xc32), (xa34, xm34, xc34)) rfl rfl rfl ⟨rfl, rfl, trivial⟩ rfl rfl trivial | exact Joint.goK [0, 2, 1, 0, 0, 0] ((b7, b8), (xa32, xm32, xc32), (xa34, xm34, xc34)) rfl rfl rfl ⟨rfl, rfl, trivial⟩ rfl rfl trivial | exact Joint.goK [2, 1, 1, 0, 0, 0] ((b7, b8), (xa32, xm32, xc32), (xa34, xm34, xc34)) rfl rfl rfl ⟨rfl, rfl, trivial⟩ rfl rfl trivial | exact Joint.goK [2, 0, 1, 0, 0, 0] ((b7, b8), (xa32, xm32, xc32), (xa34, xm34, xc34)) rfl rfl rfl ⟨rfl, rfl, trivial⟩ rfl rfl trivial | exact Joint.goK [1, 1, 1, 0, 0, 0] ((b7, b8), (xa32, xm32, xc32), (xa34, xm34, xc34)) rfl rfl rfl ⟨rfl, rfl, trivial⟩ rfl rfl trivial | exact Joint.goK [0, 1, 1, 0, 0, 0] ((b7, b8), (xa32, xm32, xc32), (xa34, xm34, xc34)) rfl rfl rfl ⟨rfl, rfl, trivial⟩ rfl rfl trivial | exact Joint.goK [1, 0, 1, 0, 0, 0] ((b7, b8), (xa32, xm32, xc32), (xa34, xm34, xc34)) rfl rfl rfl ⟨rfl, rfl, trivial⟩ rfl rfl trivial | exact Joint.goK [0, 0, 1, 0, 0, 0] ((b7, b8), (xa32, xm32, xc32), (xa34, xm34, xc34)) rfl rfl rfl ⟨rfl, rfl, trivial⟩ rfl rfl trivial)
              · refine ABI.s rfl (by decide +kernel) (Stp.alloc ty30 (fun b8 => ?_)) rfl
                refine AB.s 3 rfl (by decide +kernel) (by decide +kernel) (Stp.call rfl Try.call16 (lks rfl) (fun E' le hat => as20_ok E' ⟨_, _, _, _, _, _⟩ _ (Sl.mono (by assumption) le) (by assumption) (by first | assumption | (dsimp only; omega))) ?_) rfl
                rintro _ _ ⟨xa34, xm34, xc34, rfl, rfl⟩
                refine AB.e 6 rfl (by decide +kernel) (by decide +kernel) (Stp.store 2 Try.sizeOf30 (lk rfl) (lk rfl) rfl rfl rfl rfl rfl rfl rfl ?_)
                refine AB.e 7 rfl (by decide +kernel) (by decide +kernel) (Stp.store 1 Try.sizeOf30 (lk rfl) (lk rfl) rfl rfl rfl rfl rfl rfl rfl ?_)
                refine AB.done (by decide +kernel) ?_
                (first | exact Joint.goK [3, 2, 1, 0, 0, 0] ((b7, b8), (xa32, xm32, xc32), (xa34, xm34, xc34)) rfl rfl rfl ⟨rfl, rfl, trivial⟩ rfl rfl trivial | exact Joint.goK [3, 1, 1, 0, 0, 0] ((b7, b8), (xa32, xm32, xc32), (xa34, xm34, xc34)) rfl rfl rfl ⟨rfl, rfl, trivial⟩ rfl rfl trivial | exact Joint.goK [3, 0, 1, 0, 0, 0] ((b7, b8), (xa32, xm32, xc32), (xa34, xm34, xc34)) rfl rfl rfl ⟨rfl, rfl, trivial⟩ rfl rfl trivial | exact Joint.goK [2, 2, 1, 0, 0, 0] ((b7, b8), (xa32, xm32, xc32), (xa34, xm34, xc34)) rfl rfl rfl ⟨rfl, rfl, trivial⟩ rfl rfl trivial | exact Joint.goK [1, 2, 1, 0, 0, 0] ((b7, b8), (xa32, xm32, xc32), (xa34, xm34, xc34)) rfl rfl rfl ⟨rfl, rfl, trivial⟩ rfl rfl trivial | exact Joint.goK [0, 2, 1, 0, 0, 0] ((b7, b8), (xa32, xm32, xc32), (xa34, xm34, xc34)) rfl rfl rfl ⟨rfl, rfl, trivial⟩ rfl rfl trivial | exact Joint.goK [2, 1, 1, 0, 0, 0] ((b7, b8), (xa32, xm32, xc32), (xa34, xm34, xc34)) rfl rfl rfl ⟨rfl, rfl, trivial⟩ rfl rfl trivial | exact Joint.goK [2, 0, 1, 0, 0, 0] ((b7, b8), (xa32, xm32, xc32), (xa34, xm34, xc34)) rfl rfl rfl ⟨rfl, rfl, trivial⟩ rfl rfl trivial | exact Joint.goK [1, 1, 1, 0, 0, 0] ((b7, b8), (xa32, xm32, xc32), (xa34, xm34, xc34)) rfl rfl rfl ⟨rfl, rfl, trivial⟩ rfl rfl trivial | exact Joint.goK [0, 1, 1, 0, 0, 0] ((b7, b8), (xa32, xm32, xc32), (xa34, xm34, xc34)) rfl rfl rfl ⟨rfl, rfl, trivial⟩ rfl rfl trivial | exact Joint.goK [1, 0, 1, 0, 0, 0] ((b7, b8), (xa32, xm32, xc32), (xa34, xm34, xc34)) rfl rfl rfl ⟨rfl, rfl, trivial⟩ rfl rfl trivial | exact Joint.goK [0, 0, 1, 0, 0, 0] ((b7, b8), (xa32, xm32, xc32), (xa34, xm34, xc34)) rfl rfl rfl ⟨rfl, rfl, trivial⟩ rfl rfl trivial)
            · refine ABI.s rfl (by decide +kernel) (Stp.alloc ty30 (fun b8 => ?_)) rfl
              refine AB.more [3, 4] (by decide +kernel) rfl ⟨?_, ?_, trivial⟩
              · refine ABI.s rfl (by decide +kernel) (Stp.call rfl Try.call16 (lks rfl) (fun E' le hat => as20_ok E' ⟨_, _, _, _, _, _⟩ _ (Sl.mono (by assumption) le) (by assumption) (by first | assumption | (dsimp only; omega))) ?_) rfl
                rintro _ _ ⟨xa34, xm34, xc34, rfl, rfl⟩
                refine AB.s 4 rfl (by decide +kernel) (by decide +kernel) (Stp.alloc ty30 (fun b7 => ?_)) rfl
                refine AB.e 6 rfl (by decide +kernel) (by decide +kernel) (Stp.store 0 Try.sizeOf30 (lk rfl) (lk rfl) rfl rfl rfl rfl rfl rfl rfl ?_)
                refine AB.e 7 rfl (by decide +kernel) (by decide +kernel) (Stp.store 2 Try.sizeOf30 (lk rfl) (lk rfl) rfl rfl rfl rfl rfl rfl rfl ?_)
                refine AB.done (by decide +kernel) ?_
                (first | exact Joint.goK [3, 2, 1, 0, 0, 0] ((b7, b8), (xa32, xm32, xc32), (xa34, xm34, xc34)) rfl rfl rfl ⟨rfl, rfl, trivial⟩ rfl rfl trivial | exact Joint.goK [3, 1, 1, 0, 0, 0] ((b7, b8), (xa32, xm32, xc32), (xa34, xm34, xc34)) rfl rfl rfl ⟨rfl, rfl, trivial⟩ rfl rfl trivial | exact Joint.goK [3, 0, 1, 0, 0, 0] ((b7, b8), (xa32, xm32, xc32), (xa34, xm34, xc34)) rfl rfl rfl ⟨rfl, rfl, trivial⟩ rfl rfl trivial | exact Joint.goK [2, 2, 1, 0, 0, 0] ((b7, b8), (xa32, xm32, xc32), (xa34, xm34, xc34)) rfl rfl rfl ⟨rfl, rfl, trivial⟩ rfl rfl trivial | exact Joint.goK [1, 2, 1, 0, 0, 0] ((b7, b8), (xa32, xm32, xc32), (xa34, xm34, xc34)) rfl rfl rfl ⟨rfl, rfl, trivial⟩ rfl rfl trivial | exact Joint.goK [0, 2, 1, 0, 0, 0] ((b7, b8), (xa32, xm32, xc32), (xa34, xm34, xc34)) rfl rfl rfl ⟨rfl, rfl, trivial⟩ rfl rfl trivial | exact Joint.goK [2, 1, 1, 0, 0, 0] ((b7, b8), (xa32, xm32, xc32), (xa34, xm34, xc34)) rfl rfl rfl ⟨rfl, rfl, trivial⟩ rfl rfl trivial | exact Joint.goK [2, 0, 1, 0, 0, 0] ((b7, b8), (xa32, xm32, xc32), (xa34, xm34, xc34)) rfl rfl rfl ⟨rfl, rfl, trivial⟩ rfl rfl trivial | exact Joint.goK [1, 1, 1, 0, 0, 0] ((b7, b8), (xa32, xm32, xc32), (xa34, xm34, xc34)) rfl rfl rfl ⟨rfl, rfl, trivial⟩ rfl rfl trivial | exact Joint.goK [0, 1, 1, 0, 0, 0] ((b7, b8), (xa32, xm32, xc32), (xa34, xm34, xc34)) rfl rfl rfl ⟨rfl, rfl, trivial⟩ rfl rfl trivial | exact Joint.goK [1, 0, 1, 0, 0, 0] ((b7, b8), (xa32, xm32, xc32), (xa34, xm34, xc34)) rfl rfl rfl ⟨rfl, rfl, trivial⟩ rfl rfl trivial | exact Joint.goK [0, 0, 1, 0, 0, 0] ((b7, b8), (xa32, xm32, xc32), (xa34, xm34, xc34)) rfl rfl rfl ⟨rfl, rfl, trivial⟩ rfl rfl trivial)
              · refine ABI.s rfl (by decide +kernel) (Stp.alloc ty30 (fun b7 => ?_)) rfl
                refine AB.s 3 rfl (by decide +kernel) (by decide +kernel) (Stp.call rfl Try.call16 (lks rfl) (fun E' le hat => as20_ok E' ⟨_, _, _, _, _, _⟩ _ (Sl.mono (by assumption) le) (by assumption) (by first | assumption | (dsimp only; omega))) ?_) rfl
                rintro _ _ ⟨xa34, xm34, xc34, rfl, rfl⟩
                refine AB.e 6 rfl (by decide +kernel) (by decide +kernel) (Stp.store 1 Try.sizeOf30 (lk rfl) (lk rfl) rfl rfl rfl rfl rfl rfl rfl ?_)
                refine AB.e 7 rfl (by decide +kernel) (by decide +kernel) (Stp.store 2 Try.sizeOf30 (lk rfl) (lk rfl) rfl rfl rfl rfl rfl rfl rfl ?_)
                refine AB.done (by decide +kernel) ?_
                (first | exact Joint.goK [3, 2, 1, 0, 0, 0] ((b7, b8), (xa32, xm32, xc32), (xa34, xm34, xc34)) rfl rfl rfl ⟨rfl, rfl, trivial⟩ rfl rfl trivial | exact Joint.goK [3, 1, 1, 0, 0, 0] ((b7, b8), (xa32, xm32, xc32), (xa34, xm34, xc34)) rfl rfl rfl ⟨rfl, rfl, trivial⟩ rfl rfl trivial | exact Joint.goK [3, 0, 1, 0, 0, 0] ((b7, b8), (xa32, xm32, xc32), (xa34, xm34, xc34)) rfl rfl rfl ⟨rfl, rfl, trivial⟩ rfl rfl trivial | exact Joint.goK [2, 2, 1, 0, 0, 0] ((b7, b8), (xa32, xm32, xc32), (xa34, xm34, xc34)) rfl rfl rfl ⟨rfl, rfl, trivial⟩ rfl rfl trivial | exact Joint.goK [1, 2, 1, 0, 0, 0] ((b7, b8), (xa32, xm32, xc32), (xa34, xm34, xc34)) rfl rfl rfl ⟨rfl, rfl, trivial⟩ rfl rfl trivial | exact Joint.goK [0, 2, 1, 0, 0, 0] ((b7, b8), (xa32, xm32, xc32), (xa34, xm34, xc34)) rfl rfl rfl ⟨rfl, rfl, trivial⟩ rfl rfl trivial | exact Joint.goK [2, 1, 1, 0, 0, 0] ((b7, b8), (xa32, xm32, xc32), (xa34, xm34, xc34)) rfl rfl rfl ⟨rfl, rfl, trivial⟩ rfl rfl trivial | exact Joint.goK [2, 0, 1, 0, 0, 0] ((b7, b8), (xa32, xm32, xc32), (xa34, xm34, xc34)) rfl rfl rfl ⟨rfl, rfl, trivial⟩ rfl rfl trivial | exact Joint.goK [1, 1, 1, 0, 0, 0] ((b7, b8), (xa32, xm32, xc32), (xa34, xm34, xc34)) rfl rfl rfl ⟨rfl, rfl, trivial⟩ rfl rfl trivial | exact Joint.goK [0, 1, 1, 0, 0, 0] ((b7, b8), (xa32, xm32, xc32), (xa34, xm34, xc34)) rfl rfl rfl ⟨rfl, rfl, trivial⟩ rfl rfl trivial | exact Joint.goK [1, 0, 1, 0, 0, 0] ((b7, b8), (xa32, xm32, xc32), (xa34, xm34, xc34)) rfl rfl rfl ⟨rfl, rfl, trivial⟩ rfl rfl trivial | exact Joint.goK [0, 0, 1, 0, 0, 0] ((b7, b8), (xa32, xm32, xc32), (xa34, xm34, xc34)) rfl rfl rfl ⟨rfl, rfl, trivial⟩ rfl rfl trivial)
          · refine ABI.s rfl (by decide +kernel) (Stp.alloc ty30 (fun b7 => ?_)) rfl
            refine AB.more [1, 5] (by decide +kernel) rfl ⟨?_, ?_, trivial⟩
            · refine ABI.s rfl (by decide +kernel) (Stp.call rfl Try.call16 (lks rfl) (fun E' le hat => as20_ok E' ⟨_, _, _, _, _, _⟩ _ (Sl.mono (by assumption) le) (by assumption) (by first | assumption | (dsimp only; omega))) ?_) rfl
              rintro _ _ ⟨xa32, xm32, xc32, rfl, rfl⟩
              refine AB.more [3, 5] (by decide +kernel) rfl ⟨?_, ?_, trivial⟩
              · refine ABI.s rfl (by decide +kernel) (Stp.call rfl Try.call16 (lks rfl) (fun E' le hat => as20_ok E' ⟨_, _, _, _, _, _⟩ _ (Sl.mono (by assumption) le) (by assumption) (by first | assumption | (dsimp only; omega))) ?_) rfl
                rintro _ _ ⟨xa34, xm34, xc34, rfl, rfl⟩
                refine AB.s 5 rfl (by decide +kernel) (by decide +kernel) (Stp.alloc ty30 (fun b8 => ?_)) rfl
                refine AB.e 6 rfl (by decide +kernel) (by decide +kernel) (Stp.store 3 Try.sizeOf30 (lk rfl) (lk rfl) rfl rfl rfl rfl rfl rfl rfl ?_)
                refine AB.e 7 rfl (by decide +kernel) (by decide +kernel) (Stp.store 0 Try.sizeOf30 (lk rfl) (lk rfl) rfl rfl rfl rfl rfl rfl rfl ?_)
                refine AB.done (by decide +kernel) ?_
                (first | exact Joint.goK [3, 2, 1, 0, 0, 0] ((b7, b8), (xa32, xm32, xc32), (xa34, xm34, xc34)) rfl rfl rfl ⟨rfl, rfl, trivial⟩ rfl rfl trivial | exact Joint.goK [3, 1, 1, 0, 0, 0] ((b7, b8), (xa32, xm32, xc32), (xa34, xm34, xc34)) rfl rfl rfl ⟨rfl, rfl, trivial⟩ rfl rfl trivial | exact Joint.goK [3, 0, 1, 0, 0, 0] ((b7, b8), (xa32, xm32, xc32), (xa34, xm34, xc34)) rfl rfl rfl ⟨rfl, rfl, trivial⟩ rfl rfl trivial | exact Joint.goK [2, 2, 1, 0, 0, 0] ((b7, b8), (xa32, xm32, xc32), (xa34, xm34, xc34)) rfl rfl rfl ⟨rfl, rfl, trivial⟩ rfl rfl trivial | exact Joint.goK [1, 2, 1, 0, 0, 0] ((b7, b8), (xa32, xm32, xc32), (xa34, xm34, xc34)) rfl rfl rfl ⟨rfl, rfl, trivial⟩ rfl rfl trivial | exact Joint.goK [0, 2, 1, 0, 0, 0] ((b7, b8), (xa32, xm32, xc32), (xa34, xm34, xc34)) rfl rfl rfl ⟨rfl, rfl, trivial⟩ rfl rfl trivial | exact Joint.goK [2, 1, 1, 0, 0, 0] ((b7, b8), (xa32, xm32, xc32), (xa34, xm34, xc34)) rfl rfl rfl ⟨rfl, rfl, trivial⟩ rfl rfl trivial | exact Joint.goK [2, 0, 1, 0, 0, 0] ((b7, b8), (xa32, xm32, xc32), (xa34, xm34, xc34)) rfl rfl rfl ⟨rfl, rfl, trivial⟩ rfl rfl trivial | exact Joint.goK [1, 1, 1, 0, 0, 0] ((b7, b8), (xa32, xm32, xc32), (xa34, xm34, xc34)) rfl rfl rfl ⟨rfl, rfl, trivial⟩ rfl rfl trivial | exact Joint.goK [0, 1, 1, 0, 0, 0] ((b7, b8), (xa32, xm32, xc32), (xa34, xm34, xc34)) rfl rfl rfl ⟨rfl, rfl, trivial⟩ rfl rfl trivial | exact Joint.goK [1, 0, 1, 0, 0, 0] ((b7, b8), (xa32, xm32, xc32), (xa34, xm34, xc34)) rfl rfl rfl ⟨rfl, rfl, trivial⟩ rfl rfl trivial | exact Joint.goK [0, 0, 1, 0, 0, 0] ((b7, b8), (xa32, xm32, xc32), (xa34, xm34, xc34)) rfl rfl rfl ⟨rfl, rfl, trivial⟩ rfl rfl trivial)
              · refine ABI.s rfl (by decide +kernel) (Stp.alloc ty30 (fun b8 => ?_)) rfl
                refine AB.s 3 rfl (by decide +kernel) (by decide +kernel) (Stp.call rfl Try.call16 (lks rfl) (fun E' le hat => as20_ok E' ⟨_, _, _, _, _, _⟩ _ (Sl.mono (by assumption) le) (by assumption) (by first | assumption | (dsimp only; omega))) ?_) rfl
                rintro _ _ ⟨xa34, xm34, xc34, rfl, rfl⟩
                refine AB.e 6 rfl (by decide +kernel) (by decide +kernel) (Stp.store 3 Try.sizeOf30 (lk rfl) (lk rfl) rfl rfl rfl rfl rfl rfl rfl ?_)
                refine AB.e 7 rfl (by decide +kernel) (by decide +kernel) (Stp.store 1 Try.sizeOf30 (lk rfl) (lk rfl) rfl rfl rfl rfl rfl rfl rfl ?_)
                refine AB.done (by decide +kernel) ?_
                (first | exact Joint.goK [3, 2, 1, 0, 0, 0] ((b7, b8), (xa32, xm32, xc32), (xa34, xm34, xc34)) rfl rfl rfl ⟨rfl, rfl, trivial⟩ rfl rfl trivial | exact Joint.goK [3, 1, 1, 0, 0, 0] ((b7, b8), (xa32, xm32, xc32), (xa34, xm34, xc34)) rfl rfl rfl ⟨rfl, rfl, trivial⟩ rfl rfl trivial | exact Joint.goK [3, 0, 1, 0, 0, 0] ((b7, b8), (xa32, xm32, xc32), (xa34, xm34, xc34)) rfl rfl rfl ⟨rfl, rfl, trivial⟩ rfl rfl trivial | exact Joint.goK [2, 2, 1, 0, 0, 0] ((b7, b8), (xa32, xm32, xc32), (xa34, xm34, xc34)) rfl rfl rfl ⟨rfl, rfl, trivial⟩ rfl rfl trivial | exact Joint.goK [1, 2, 1, 0, 0, 0] ((b7, b8), (xa32, xm32, xc32), (xa34, xm34, xc34)) rfl rfl rfl ⟨rfl, rfl, trivial⟩ rfl rfl trivial | exact Joint.goK [0, 2, 1, 0, 0, 0] ((b7, b8), (xa32, xm32, xc32), (xa34, xm34, xc34)) rfl rfl rfl ⟨rfl, rfl, trivial⟩ rfl rfl trivial | exact Joint.goK [2, 1, 1, 0, 0, 0] ((b7, b8), (xa32, xm32, xc32), (xa34, xm34, xc34)) rfl rfl rfl ⟨rfl, rfl, trivial⟩ rfl rfl trivial | exact Joint.goK [2, 0, 1, 0, 0, 0] ((b7, b8), (xa32, xm32, xc32), (xa34, xm34, xc34)) rfl rfl rfl ⟨rfl, rfl, trivial⟩ rfl rfl trivial | exact Joint.goK [1, 1, 1, 0, 0, 0] ((b7, b8), (xa32, xm32, xc32), (xa34, xm34, xc34)) rfl rfl rfl ⟨rfl, rfl, trivial⟩ rfl rfl trivial | exact Joint.goK [0, 1, 1, 0, 0, 0] ((b7, b8), (xa32, xm32, xc32), (xa34, xm34, xc34)) rfl rfl rfl ⟨rfl, rfl, trivial⟩ rfl rfl trivial | exact Joint.goK [1, 0, 1, 0, 0, 0] ((b7, b8), (xa32, xm32, xc32), (xa34, xm34, xc34)) rfl rfl rfl ⟨rfl, rfl, trivial⟩ rfl rfl trivial | exact Joint.goK [0, 0, 1, 0, 0, 0] ((b7, b8), (xa32, xm32, xc32), (xa34, xm34, xc34)) rfl rfl rfl ⟨rfl, rfl, trivial⟩ rfl rfl trivial)
            · refine ABI.s rfl (by decide +kernel) (Stp.alloc ty30 (fun b8 => ?_)) rfl
              refine AB.s 1 rfl (by decide +kernel) (by decide +kernel) (Stp.call rfl Try.call16 (lks rfl) (fun E' le hat => as20_ok E' ⟨_, _, _, _, _, _⟩ _ (Sl.mono (by assumption) le) (by assumption) (by first | assumption | (dsimp only; omega))) ?_) rfl
              rintro _ _ ⟨xa32, xm32, xc32, rfl, rfl⟩
              refine AB.s 3 rfl (by decide +kernel) (by decide +kernel) (Stp.call rfl Try.call16 (lks rfl) (fun E' le hat => as20_ok E' ⟨_, _, _, _, _, _⟩ _ (Sl.mono (by assumption) le) (by assumption) (by first | assumption | (dsimp only; omega))) ?_) rfl
              rintro _ _ ⟨xa34, xm34, xc34, rfl, rfl⟩
              refine AB.e 6 rfl (by decide +kernel) (by decide +kernel) (Stp.store 3 Try.sizeOf30 (lk rfl) (lk rfl) rfl rfl rfl rfl rfl rfl rfl ?_)
              refine AB.e 7 rfl (by decide +kernel) (by decide +kernel) (Stp.store 2 Try.sizeOf30 (lk rfl) (lk rfl) rfl rfl rfl rfl rfl rfl rfl ?_)
              refine AB.done (by decide +kernel) ?_
              (first | exact Joint.goK [3, 2, 1, 0, 0, 0] ((b7, b8), (xa32, xm32, xc32), (xa34, xm34, xc34)) rfl rfl rfl ⟨rfl, rfl, trivial⟩ rfl rfl trivial | exact Joint.goK [3, 1, 1, 0, 0, 0] ((b7, b8), (xa32, xm32, xc32), (xa34, xm34, xc34)) rfl rfl rfl ⟨rfl, rfl, trivial⟩ rfl rfl trivial | exact Joint.goK [3, 0, 1, 0, 0, 0] ((b7, b8), (xa32, xm32, xc32), (xa34, xm34, xc34)) rfl rfl rfl ⟨rfl, rfl, trivial⟩ rfl rfl trivial | exact Joint.goK [2, 2, 1, 0, 0, 0] ((b7, b8), (xa32, xm32, xc32), (xa34, xm34, xc34)) rfl rfl rfl ⟨rfl, rfl, trivial⟩ rfl rfl trivial | exact Joint.goK [1, 2, 1, 0, 0, 0] ((b7, b8), (xa32, xm32, xc32), (xa34, xm34, xc34)) rfl rfl rfl ⟨rfl, rfl, trivial⟩ rfl rfl trivial | exact Joint.goK [0, 2, 1, 0, 0, 0] ((b7, b8), (xa32, xm32, xc32), (xa34, xm34, xc34)) rfl rfl rfl ⟨rfl, rfl, trivial⟩ rfl rfl trivial | exact Joint.goK [2, 1, 1, 0, 0, 0] ((b7, b8), (xa32, xm32, xc32), (xa34, xm34, xc34)) rfl rfl rfl ⟨rfl, rfl, trivial⟩ rfl rfl trivial | exact Joint.goK [2, 0, 1, 0, 0, 0] ((b7, b8), (xa32, xm32, xc32), (xa34, xm34, xc34)) rfl rfl rfl ⟨rfl, rfl, trivial⟩ rfl rfl trivial | exact Joint.goK [1, 1, 1, 0, 0, 0] ((b7, b8), (xa32, xm32, xc32), (xa34, xm34, xc34)) rfl rfl rfl ⟨rfl, rfl, trivial⟩ rfl rfl trivial | exact Joint.goK [0, 1, 1, 0, 0, 0] ((b7, b8), (xa32, xm32, xc32), (xa34, xm34, xc34)) rfl rfl rfl ⟨rfl, rfl, trivial⟩ rfl rfl trivial | exact Joint.goK [1, 0, 1, 0, 0, 0] ((b7, b8), (xa32, xm32, xc32), (xa34, xm34, xc34)) rfl rfl rfl ⟨rfl, rfl, trivial⟩ rfl rfl trivial | exact Joint.goK [0, 0, 1, 0, 0, 0] ((b7, b8), (xa32, xm32, xc32), (xa34, xm34, xc34)) rfl rfl rfl ⟨rfl, rfl, trivial⟩ rfl rfl trivial)
          · refine ABI.s rfl (by decide +kernel) (Stp.alloc ty30 (fun b8 => ?_)) rfl
            refine AB.more [1, 4] (by decide +kernel) rfl ⟨?_, ?_, trivial⟩
            · refine ABI.s rfl (by decide +kernel) (Stp.call rfl Try.call16 (lks rfl) (fun E' le hat => as20_ok E' ⟨_, _, _, _, _, _⟩ _ (Sl.mono (by assumption) le) (by assumption) (by first | assumption | (dsimp only; omega))) ?_) rfl
              rintro _ _ ⟨xa32, xm32, xc32, rfl, rfl⟩
              refine AB.more [3, 4] (by decide +kernel) rfl ⟨?_, ?_, trivial⟩
              · refine ABI.s rfl (by decide +kernel) (Stp.call rfl Try.call16 (lks rfl) (fun E' le hat => as20_ok E' ⟨_, _, _, _, _, _⟩ _ (Sl.mono (by assumption) le) (by assumption) (by first | assumption | (dsimp only; omega))) ?_) rfl
                rintro _ _ ⟨xa34, xm34, xc34, rfl, rfl⟩
                refine AB.s 4 rfl (by decide +kernel) (by decide +kernel) (Stp.alloc ty30 (fun b7 => ?_)) rfl
                refine AB.e 6 rfl (by decide +kernel) (by decide +kernel) (Stp.store 0 Try.sizeOf30 (lk rfl) (lk rfl) rfl rfl rfl rfl rfl rfl rfl ?_)
                refine AB.e 7 rfl (by decide +kernel) (by decide +kernel) (Stp.store 3 Try.sizeOf30 (lk rfl) (lk rfl) rfl rfl rfl rfl rfl rfl rfl ?_)
                refine AB.done (by decide +kernel) ?_
                (first | exact Joint.goK [3, 2, 1, 0, 0, 0] ((b7, b8), (xa32, xm32, xc32), (xa34, xm34, xc34)) rfl rfl rfl ⟨rfl, rfl, trivial⟩ rfl rfl trivial | exact Joint.goK [3, 1, 1, 0, 0, 0] ((b7, b8), (xa32, xm32, xc32), (xa34, xm34, xc34)) rfl rfl rfl ⟨rfl, rfl, trivial⟩ rfl rfl trivial | exact Joint.goK [3, 0, 1, 0, 0, 0] ((b7, b8), (xa32, xm32, xc32), (xa34, xm34, xc34)) rfl rfl rfl ⟨rfl, rfl, trivial⟩ rfl rfl trivial | exact Joint.goK [2, 2, 1, 0, 0, 0] ((b7, b8), (xa32, xm32, xc32), (xa34, xm34, xc34)) rfl rfl rfl ⟨rfl, rfl, trivial⟩ rfl rfl trivial | exact Joint.goK [1, 2, 1, 0, 0, 0] ((b7, b8), (xa32, xm32, xc32), (xa34, xm34, xc34)) rfl rfl rfl ⟨rfl, rfl, trivial⟩ rfl rfl trivial | exact Joint.goK [0, 2, 1, 0, 0, 0] ((b7, b8), (xa32, xm32, xc32), (xa34, xm34, xc34)) rfl rfl rfl ⟨rfl, rfl, trivial⟩ rfl rfl trivial | exact Joint.goK [2, 1, 1, 0, 0, 0] ((b7, b8), (xa32, xm32, xc32), (xa34, xm34, xc34)) rfl rfl rfl ⟨rfl, rfl, trivial⟩ rfl rfl trivial | exact Joint.goK [2, 0, 1, 0, 0, 0] ((b7, b8), (xa32, xm32, xc32), (xa34, xm34, xc34)) rfl rfl rfl ⟨rfl, rfl, trivial⟩ rfl rfl trivial | exact Joint.goK [1, 1, 1, 0, 0, 0] ((b7, b8), (xa32, xm32, xc32), (xa34, xm34, xc34)) rfl rfl rfl ⟨rfl, rfl, trivial⟩ rfl rfl trivial | exact Joint.goK [0, 1, 1, 0, 0, 0] ((b7, b8), (xa32, xm32, xc32), (xa34, xm34, xc34)) rfl rfl rfl ⟨rfl, rfl, trivial⟩ rfl rfl trivial | exact Joint.goK [1, 0, 1, 0, 0, 0] ((b7, b8), (xa32, xm32, xc32), (xa34, xm34, xc34)) rfl rfl rfl ⟨rfl, rfl, trivial⟩ rfl rfl trivial | exact Joint.goK [0, 0, 1, 0, 0, 0] ((b7, b8), (xa32, xm32, xc32), (xa34, xm34, xc34)) rfl rfl rfl ⟨rfl, rfl, trivial⟩ rfl rfl trivial)
              · refine ABI.s rfl (by decide +kernel) (Stp.alloc ty30 (fun b7 => ?_)) rfl
                refine AB.s 3 rfl (by decide +kernel) (by decide +kernel) (Stp.call rfl Try.call16 (lks rfl) (fun E' le hat => as20_ok E' ⟨_, _, _, _, _, _⟩ _ (Sl.mono (by assumption) le) (by assumption) (by first | assumption | (dsimp only; omega))) ?_) rfl
                rintro _ _ ⟨xa34, xm34, xc34, rfl, rfl⟩
                refine AB.e 6 rfl (by decide +kernel) (by decide +kernel) (Stp.store 1 Try.sizeOf30 (lk rfl) (lk rfl) rfl rfl rfl rfl rfl rfl rfl ?_)
                refine AB.e 7 rfl (by decide +kernel) (by decide +kernel) (Stp.store 3 Try.sizeOf30 (lk rfl) (lk rfl) rfl rfl rfl rfl rfl rfl rfl ?_)
                refine AB.done (by decide +kernel) ?_
                (first | exact Joint.goK [3, 2, 1, 0, 0, 0] ((b7, b8), (xa32, xm32, xc32), (xa34, xm34, xc34)) rfl rfl rfl ⟨rfl, rfl, trivial⟩ rfl rfl trivial | exact Joint.goK [3, 1, 1, 0, 0, 0] ((b7, b8), (xa32, xm32, xc32), (xa34, xm34, xc34)) rfl rfl rfl ⟨rfl, rfl, trivial⟩ rfl rfl trivial | exact Joint.goK [3, 0, 1, 0, 0, 0] ((b7, b8), (xa32, xm32, xc32), (xa34, xm34, xc34)) rfl rfl rfl ⟨rfl, rfl, trivial⟩ rfl rfl trivial | exact Joint.goK [2, 2, 1, 0, 0, 0] ((b7, b8), (xa32, xm32, xc32), (xa34, xm34, xc34)) rfl rfl rfl ⟨rfl, rfl, trivial⟩ rfl rfl trivial | exact Joint.goK [1, 2, 1, 0, 0, 0] ((b7, b8), (xa32, xm32, xc32), (xa34, xm34, xc34)) rfl rfl rfl ⟨rfl, rfl, trivial⟩ rfl rfl trivial | exact Joint.goK [0, 2, 1, 0, 0, 0] ((b7, b8), (xa32, xm32, xc32), (xa34, xm34, xc34)) rfl rfl rfl ⟨rfl, rfl, trivial⟩ rfl rfl trivial | exact Joint.goK [2, 1, 1, 0, 0, 0] ((b7, b8), (xa32, xm32, xc32), (xa34, xm34, xc34)) rfl rfl rfl ⟨rfl, rfl, trivial⟩ rfl rfl trivial | exact Joint.goK [2, 0, 1, 0, 0, 0] ((b7, b8), (xa32, xm32, xc32), (xa34, xm34, xc34)) rfl rfl rfl ⟨rfl, rfl, trivial⟩ rfl rfl trivial | exact Joint.goK [1, 1, 1, 0, 0, 0] ((b7, b8), (xa32, xm32, xc32), (xa34, xm34, xc34)) rfl rfl rfl ⟨rfl, rfl, trivial⟩ rfl rfl trivial | exact Joint.goK [0, 1, 1, 0, 0, 0] ((b7, b8), (xa32, xm32, xc32), (xa34, xm34, xc34)) rfl rfl rfl ⟨rfl, rfl, trivial⟩ rfl rfl trivial | exact Joint.goK [1, 0, 1, 0, 0, 0] ((b7, b8), (xa32, xm32, xc32), (xa34, xm34, xc34)) rfl rfl rfl ⟨rfl, rfl, trivial⟩ rfl rfl trivial | exact Joint.goK [0, 0, 1, 0, 0, 0] ((b7, b8), (xa32, xm32, xc32), (xa34, xm34, xc34)) rfl rfl rfl ⟨rfl, rfl, trivial⟩ rfl rfl trivial)
            · refine ABI.s rfl (by decide +kernel) (Stp.alloc ty30 (fun b7 => ?_)) rfl
              refine AB.s 1 rfl (by decide +kernel) (by decide +kernel) (Stp.call rfl Try.call16 (lks rfl) (fun E' le hat => as20_ok E' ⟨_, _, _, _, _, _⟩ _ (Sl.mono (by assumption) le) (by assumption) (by first | assumption | (dsimp only; omega))) ?_) rfl
              rintro _ _ ⟨xa32, xm32, xc32, rfl, rfl⟩
              refine AB.s 3 rfl (by decide +kernel) (by decide +kernel) (Stp.call rfl Try.call16 (lks rfl) (fun E' le hat => as20_ok E' ⟨_, _, _, _, _, _⟩ _ (Sl.mono (by assumption) le) (by assumption) (by first | assumption | (dsimp only; omega))) ?_) rfl
              rintro _ _ ⟨xa34, xm34, xc34, rfl, rfl⟩
              refine AB.e 6 rfl (by decide +kernel) (by decide +kernel) (Stp.store 2 Try.sizeOf30 (lk rfl) (lk rfl) rfl rfl rfl rfl rfl rfl rfl ?_)
              refine AB.e 7 rfl (by decide +kernel) (by decide +kernel) (Stp.store 3 Try.sizeOf30 (lk rfl) (lk rfl) rfl rfl rfl rfl rfl rfl rfl ?_)
              refine AB.done (by decide +kernel) ?_
              (first | exact Joint.goK [3, 2, 1, 0, 0, 0] ((b7, b8), (xa32, xm32, xc32), (xa34, xm34, xc34)) rfl rfl rfl ⟨rfl, rfl, trivial⟩ rfl rfl trivial | exact Joint.goK [3, 1, 1, 0, 0, 0] ((b7, b8), (xa32, xm32, xc32), (xa34, xm34, xc34)) rfl rfl rfl ⟨rfl, rfl, trivial⟩ rfl rfl trivial | exact Joint.goK [3, 0, 1, 0, 0, 0] ((b7, b8), (xa32, xm32, xc32), (xa34, xm34, xc34)) rfl rfl rfl ⟨rfl, rfl, trivial⟩ rfl rfl trivial | exact Joint.goK [2, 2, 1, 0, 0, 0] ((b7, b8), (xa32, xm32, xc32), (xa34, xm34, xc34)) rfl rfl rfl ⟨rfl, rfl, trivial⟩ rfl rfl trivial | exact Joint.goK [1, 2, 1, 0, 0, 0] ((b7, b8), (xa32, xm32, xc32), (xa34, xm34, xc34)) rfl rfl rfl ⟨rfl, rfl, trivial⟩ rfl rfl trivial | exact Joint.goK [0, 2, 1, 0, 0, 0] ((b7, b8), (xa32, xm32, xc32), (xa34, xm34, xc34)) rfl rfl rfl ⟨rfl, rfl, trivial⟩ rfl rfl trivial | exact Joint.goK [2, 1, 1, 0, 0, 0] ((b7, b8), (xa32, xm32, xc32), (xa34, xm34, xc34)) rfl rfl rfl ⟨rfl, rfl, trivial⟩ rfl rfl trivial | exact Joint.goK [2, 0, 1, 0, 0, 0] ((b7, b8), (xa32, xm32, xc32), (xa34, xm34, xc34)) rfl rfl rfl ⟨rfl, rfl, trivial⟩ rfl rfl trivial | exact Joint.goK [1, 1, 1, 0, 0, 0] ((b7, b8), (xa32, xm32, xc32), (xa34, xm34, xc34)) rfl rfl rfl ⟨rfl, rfl, trivial⟩ rfl rfl trivial | exact Joint.goK [0, 1, 1, 0, 0, 0] ((b7, b8), (xa32, xm32, xc32), (xa34, xm34, xc34)) rfl rfl rfl ⟨rfl, rfl, trivial⟩ rfl rfl trivial | exact Joint.goK [1, 0, 1, 0, 0, 0] ((b7, b8), (xa32, xm32, xc32), (xa34, xm34, xc34)) rfl rfl rfl ⟨rfl, rfl, trivial⟩ rfl rfl trivial | exact Joint.goK [0, 0, 1, 0, 0, 0] ((b7, b8), (xa32, xm32, xc32), (xa34, xm34, xc34)) rfl rfl rfl ⟨rfl, rfl, trivial⟩ rfl rfl trivial)
        · rintro ⟨⟨b7, b8⟩, ⟨xa, xm, xc⟩, ⟨ya, ym, yc⟩⟩ u _
          dsimp only
          refine Body.seq ?_
          refine Body.region ?_
          refine Ops.d (Det.lda Try.isAgg24 Try.sizeOf24 (lk rfl) (Rds.ow (m := 6) 5 rfl rfl) rfl) rfl ?_
          refine Ops.s (Stp.call rfl Try.call28 (lks rfl) (fun E' le hat => write_any E' ⟨vr, vc, cells, vo, vl, vv⟩ _ (Sl.mono hv le)) ?_) rfl
          rintro _ _ ⟨s37, rfl, rfl⟩
          refine Ops.u (Dtu.mv (lk rfl)) rfl ?_
          refine Ops.u (Dtu.ext (lk rfl) rfl) rfl ?_
          refine Ops.u (Dtu.ext (lk rfl) rfl) rfl ?_
          refine Ops.u (Dtu.asg (lk rfl)) rfl ?_
          refine Ops.u (Dtu.asg (lk rfl)) rfl ?_
          refine Ops.nil ?_
          refine Then.next ?_
          refine Body.seq ?_
          refine Body.region ?_
          refine Ops.u (Dtu.mv (lk rfl)) rfl ?_
          refine Ops.s (Stp.call rfl Try.call29 (lks rfl) (fun E' le hat => read_any E' _ _ (Sl.mono hb le) hbt) ?_) rfl
          rintro _ _ ⟨s42, rfl, rfl⟩
          refine Ops.u (Dtu.mv (lk rfl)) rfl ?_
          refine Ops.u (Dtu.ext (lk rfl) rfl) rfl ?_
          refine Ops.u (Dtu.ext (lk rfl) rfl) rfl ?_
          refine Ops.s (Stp.alloc ty24 (fun b11 => ?_)) rfl
          refine Ops.pure (Sl.isSl (Sl.osl 1 rfl)) fun h42 => ?_
          obtain ⟨ua, um, uc, rfl⟩ := h42
          refine Ops.e (Stp.store 0 Try.sizeOf24 (lk rfl) (lk rfl) rfl rfl rfl rfl rfl rfl rfl ?_)
          refine Ops.u (Dtu.asg (lk rfl)) rfl ?_
          refine Ops.nil ?_
          refine Then.next ?_
          refine Body.seq ?_
          refine Body.region ?_
          refine Ops.u (Dtu.mv (lk rfl)) rfl ?_
          refine Ops.s (Stp.call rfl Try.call30 (lks rfl) (fun E' le hat => rread_any E' _ _ (Sl.mono hb le) hbt) ?_) rfl
          rintro _ _ ⟨s47, rfl, rfl⟩
          refine Ops.u (Dtu.mv (lk rfl)) rfl ?_
          refine Ops.u (Dtu.ext (lk rfl) rfl) rfl ?_
          refine Ops.u (Dtu.ext (lk rfl) rfl) rfl ?_
          refine Ops.s (Stp.alloc ty30 (fun b13 => ?_)) rfl
          refine Ops.pure (Sl.isSl (Sl.osl 1 rfl)) fun h47 => ?_
          obtain ⟨ra, rm, rc, rfl⟩ := h47
          refine Ops.e (Stp.store 0 Try.sizeOf30 (lk rfl) (lk rfl) rfl rfl rfl rfl rfl rfl rfl ?_)
          refine Ops.u (Dtu.asg (lk rfl)) rfl ?_
          refine Ops.nil ?_
          refine Then.next ?_
          refine Body.seq ?_
          refine Body.seq ?_
          refine Body.draw mixed ?_
          refine AB.d 0 rfl (by decide +kernel) rfl (Det.lda Try.isAgg24 Try.sizeOf24 (lk rfl) (Rds.ow (m := 6) 10 rfl rfl) rfl) rfl ?_
          refine AB.d 2 rfl (by decide +kernel) rfl (Det.lda Try.isAgg30 Try.sizeOf30 (lk rfl) (Rds.ow (m := 6) 5 rfl rfl) rfl) rfl ?_
          refine AB.s 1 rfl (by decide +kernel) (by decide +kernel) (Stp.call rfl Try.call25 (lks rfl) (fun E' le hat => right_ok E' ⟨_, _, _, _, _, _⟩ _ (Sl.mono (by assumption) le)) ?_) rfl
          rintro _ _ ⟨rfl, rfl⟩
          have hn1 : ¬ (View.ok (View.mk vr vc cells vo vl vv) ≠ View.ok (View.mk vr vc cells vo vl vv)) := fun h => h rfl
          have hn2 : ¬ (decide ((View.mk vr vc cells vo vl vv) = (View.mk wr wc dells wo wl wv)) ≠ decide ((View.mk vr vc cells vo vl vv) = (View.mk wr wc dells wo wl wv))) := fun h => h rfl
          have hn3 : ¬ ¬ (rdV bs = rdV bs) := fun h => h rfl
          have hE : rdK bs = false → rdE bs = 3 := fun h => by
            cases hr : readV bs <;> simp [rdE, rdK, hr] at h ⊢
          have hn4 : ¬ (decide (rdE bs = 0) ≠ rdK bs) := fun h => h rk
          refine AB.s 3 rfl (by decide +kernel) (by decide +kernel) (Stp.call rfl Try.call18 (lks rfl) (fun E' le hat => rright_ok E' (View.mk vr vc cells vo vl vv) (.slice xa xm xc) (Sl.at (hat _ (.tail _ (.tail _ (.tail _ (.tail _ (.tail _ (.tail _ (.tail _ (.head _)))))))))) gv) ?_) rfl
          rintro _ _ ⟨rfl, rfl⟩
          refine AB.u 4 rfl (by decide +kernel) (Dtu.neB Try.underlying4 (lk rfl) (lk rfl)) rfl ?_
          refine AB.u 5 rfl (by decide +kernel) (Dtu.mv (lk rfl)) rfl ?_
          refine AB.decP 55 rfl (fun hy => absurd hy (by first | omega | assumption | decide)) (fun _ => ?_)
          refine AB.gd 6 rfl (by decide +kernel) rfl rfl rfl rfl (Det.lda Try.isAgg24 Try.sizeOf24 (lk rfl) (Rds.ow (m := 6) 10 rfl rfl) rfl) rfl ?_
          refine AB.gd 7 rfl (by decide +kernel) rfl rfl rfl rfl (Det.lda Try.isAgg24 Try.sizeOf24 (lk rfl) (Rds.ow (m := 6) 9 rfl rfl) rfl) rfl ?_
          refine AB.gd 9 rfl (by decide +kernel) rfl rfl rfl rfl (Det.lda Try.isAgg30 Try.sizeOf30 (lk rfl) (Rds.ow (m := 6) 5 rfl rfl) rfl) rfl ?_
          refine AB.gd 10 rfl (by decide +kernel) rfl rfl rfl rfl (Det.lda Try.isAgg30 Try.sizeOf30 (lk rfl) (Rds.ow (m := 6) 6 rfl rfl) rfl) rfl ?_
          refine AB.gs 8 rfl (by decide +kernel) (by decide +kernel) rfl rfl rfl (Stp.call rfl Try.call26 (lks rfl) (fun E' le hat => same_ok E' ⟨_, _, _, _, _, _⟩ ⟨_, _, _, _, _, _⟩ _ _ (Sl.mono (by assumption) le) (Sl.mono (by assumption) le)) ?_) rfl
          rintro _ _ ⟨rfl, rfl⟩
          refine AB.gs 11 rfl (by decide +kernel) (by decide +kernel) rfl rfl rfl (Stp.call rfl Try.call24 (lks rfl) (fun E' le hat => rsame_ok E' (View.mk vr vc cells vo vl vv) (View.mk wr wc dells wo wl wv) (.slice xa xm xc) (.slice ya ym yc) (Sl.at (hat _ (.tail _ (.tail _ (.tail _ (.tail _ (.tail _ (.tail _ (.tail _ (.head _)))))))))) (Sl.at (hat _ (.tail _ (.tail _ (.tail _ (.tail _ (.tail _ (.tail _ (.tail _ (.tail _ (.head _))))))))))) fv fo) ?_) rfl
          rintro _ _ ⟨rfl, rfl⟩
          refine AB.gu 12 rfl (by decide +kernel) rfl rfl rfl (Dtu.neB Try.underlying4 (lk rfl) (lk rfl)) rfl ?_
          refine AB.u 13 rfl (by decide +kernel) (Dtu.pickF (lk rfl) (lk rfl)) rfl ?_
          refine AB.u 14 rfl (by decide +kernel) (Dtu.mv (lk rfl)) rfl ?_
          refine AB.decP 64 rfl (fun hy => absurd hy (by first | omega | assumption | decide)) (fun _ => ?_)
          refine AB.gd 15 rfl (by decide +kernel) rfl rfl rfl rfl (Det.lda Try.isAgg24 Try.sizeOf24 (lk rfl) (Rds.ow (m := 6) 2 rfl rfl) rfl) rfl ?_
          refine AB.gd 17 rfl (by decide +kernel) rfl rfl rfl rfl (Det.lda Try.isAgg30 Try.sizeOf30 (lk rfl) (Rds.ow (m := 6) 0 rfl rfl) rfl) rfl ?_
          refine AB.gs 16 rfl (by decide +kernel) (by decide +kernel) rfl rfl rfl (Stp.call rfl Try.call16 (lks rfl) (fun E' le hat => as20_ok E' (rdV bs) (.slice ua um uc) (Sl.at (hat _ (.tail _ (.tail _ (.tail _ (.head _)))))) rf (by omega)) ?_) rfl
          rintro _ _ ⟨qa, qm, qc, rfl, rfl⟩
          skip
          refine AB.gs 18 rfl (by decide +kernel) (by decide +kernel) rfl rfl rfl (Stp.call rfl Try.call24 (lks rfl) (fun E' le hat => rsame_ok E' (rdV bs) (rdV bs) (.slice qa qm qc) (.slice ra rm rc) (Sl.at (hat _ (.head _))) (Sl.at (hat _ (.tail _ (.tail _ (.head _))))) rf rf) ?_) rfl
          rintro _ _ ⟨rfl, rfl⟩
          refine AB.gu 19 rfl (by decide +kernel) rfl rfl rfl (Dtu.notP (lk rfl)) rfl ?_
          refine AB.u 20 rfl (by decide +kernel) (Dtu.pickF (lk rfl) (lk rfl)) rfl ?_
          refine AB.u 21 rfl (by decide +kernel) (Dtu.mv (lk rfl)) rfl ?_
          refine AB.decP 71 rfl (fun hy => absurd hy (by first | omega | assumption | decide)) (fun _ => ?_)
          refine AB.gu 22 rfl (by decide +kernel) rfl rfl rfl (Dtu.mv (lk rfl)) rfl ?_
          refine AB.gu 23 rfl (by decide +kernel) rfl rfl rfl (Dtu.eql (lk rfl) (lk rfl)) rfl ?_
          refine AB.gu 24 rfl (by decide +kernel) rfl rfl rfl (Dtu.mv (lk rfl)) rfl ?_
          refine AB.gu 25 rfl (by decide +kernel) rfl rfl rfl (Dtu.neB Try.underlying4 (lk rfl) (lk rfl)) rfl ?_
          refine AB.u 26 rfl (by decide +kernel) (Dtu.pickF (lk rfl) (lk rfl)) rfl ?_
          refine AB.u 27 rfl (by decide +kernel) (Dtu.mv (lk rfl)) rfl ?_
          refine AB.decP 77 rfl (fun hy => absurd hy (by first | omega | assumption | decide)) (fun _ => ?_)
          refine AB.gu 28 rfl (by decide +kernel) rfl rfl rfl (Dtu.mv (lk rfl)) rfl ?_
          refine AB.gu 29 rfl (by decide +kernel) rfl rfl rfl (Dtu.not (lk rfl)) rfl ?_
          refine AB.gu 30 rfl (by decide +kernel) rfl rfl rfl (Dtu.mv (lk rfl)) rfl ?_
          refine AB.dec 80 rfl (fun c80 => ?_) (fun c80 => ?_)
          · have hE3 := hE (by simpa using c80)
            have hE4 : ¬ (rdE bs ≠ 3) := fun h => h hE3
            refine AB.gu 31 rfl (by decide +kernel) rfl rfl rfl (Dtu.mv (lk rfl)) rfl ?_
            refine AB.gu 32 rfl (by decide +kernel) rfl rfl rfl (Dtu.neq (lk rfl) (lk rfl)) rfl ?_
            refine AB.gu 33 rfl (by decide +kernel) rfl rfl rfl (Dtu.pickT (lk rfl) (lk rfl)) rfl ?_
            refine AB.u 34 rfl (by decide +kernel) (Dtu.pickF (lk rfl) (lk rfl)) rfl ?_
            refine AB.done (by decide +kernel) ?_
            refine Then.next ?_
            refine Body.condP (lk rfl) (fun hy => absurd hy (by first | omega | assumption | decide)) (fun _ => ?_)
            refine Body.skip ?_
            refine Then.next ?_
            refine Body.seq ?_
            refine Body.seq ?_
            refine Body.region ?_
            refine Ops.d (Det.lda Try.isAgg30 Try.sizeOf30 (lk rfl) (Rds.ow (m := 6) 6 rfl rfl) rfl) rfl ?_
            refine Ops.s (Stp.call rfl Try.call18 (lks rfl) (fun E' le hat => rright_ok E' (View.mk vr vc cells vo vl vv) (.slice xa xm xc) (Sl.at (hat _ (.tail _ (.tail _ (.tail _ (.tail _ (.tail _ (.tail _ (.tail _ (.tail _ (.head _))))))))))) gv) ?_) rfl
            rintro _ _ ⟨rfl, rfl⟩
            cases hk : View.ok (View.mk vr vc cells vo vl vv) with
            | false =>
              have hw : View.wE (View.mk vr vc cells vo vl vv) = 3 := by simp [View.wE, hk]
              have hw2 : View.wB (View.mk vr vc cells vo vl vv) = [] := by simp [View.wB, hk]
              refine Ops.u (Dtu.not (lk rfl)) rfl ?_
              refine Ops.nil ?_
              refine Then.next ?_
              refine Body.condT (lk rfl) ?_
              refine Body.seq ?_
              refine Body.region ?_
              refine Ops.s (Stp.call rfl Try.call27 (lks rfl) (fun E' le hat => alive20_ok E') ?_) rfl
              rintro _ _ ⟨rfl, rfl⟩
              refine Ops.u (Dtu.mv (lk rfl)) rfl ?_
              refine Ops.gu rfl rfl rfl (Dtu.mv (lk rfl)) rfl ?_
              refine Ops.gu rfl rfl rfl (Dtu.eql (lk rfl) (lk rfl)) rfl ?_
              refine Ops.u (Dtu.pickT (lk rfl) (lk rfl)) rfl ?_
              refine Ops.u (Dtu.mv (lk rfl)) rfl ?_
              refine Ops.decP 93 rfl (fun _ => ?_) (fun hn => absurd (by first | omega | assumption | decide) hn)
              refine Ops.gu rfl rfl rfl (Dtu.mv (lk rfl)) rfl ?_
              refine Ops.gu rfl rfl rfl (Dtu.lenS Try.underlying32 (Sl.osl 5 rfl) (lk rfl)) rfl ?_
              refine Ops.gu rfl rfl rfl (Dtu.eql (lk rfl) (lk rfl)) rfl ?_
              refine Ops.u (Dtu.pickT (lk rfl) (lk rfl)) rfl ?_
              refine Ops.u (Dtu.asg (lk rfl)) rfl ?_
              refine Ops.nil ?_
              refine Then.next ?_
              refine Body.ret ?_
              refine Then.ret ?_
              exact ⟨.inr rfl, _, pk [] rfl, bool_eq (by simp [hw2]), rfl⟩
            | true =>
              have hw : View.wE (View.mk vr vc cells vo vl vv) = 0 := by simp [View.wE, hk]
              have hw2 : View.wB (View.mk vr vc cells vo vl vv) = View.bytes (View.mk vr vc cells vo vl vv) := by simp [View.wB, hk]
              refine Ops.u (Dtu.not (lk rfl)) rfl ?_
              refine Ops.nil ?_
              refine Then.next ?_
              refine Body.condF (lk rfl) ?_
              refine Body.skip ?_
              refine Then.next ?_
              refine Body.seq ?_
              refine Body.draw mixed ?_
              refine AB.s 0 rfl (by decide +kernel) (by decide +kernel) (Stp.call rfl Try.call27 (lks rfl) (fun E' le hat => alive20_ok E') ?_) rfl
              rintro _ _ ⟨rfl, rfl⟩
              refine AB.u 1 rfl (by decide +kernel) (Dtu.mv (lk rfl)) rfl ?_
              refine AB.gu 2 rfl (by decide +kernel) rfl rfl rfl (Dtu.mv (lk rfl)) rfl ?_
              refine AB.gu 3 rfl (by decide +kernel) rfl rfl rfl (Dtu.eql (lk rfl) (lk rfl)) rfl ?_
              refine AB.u 4 rfl (by decide +kernel) (Dtu.pickT (lk rfl) (lk rfl)) rfl ?_
              refine AB.u 5 rfl (by decide +kernel) (Dtu.mv (lk rfl)) rfl ?_
              refine AB.decP 103 rfl (fun _ => ?_) (fun hn => absurd (by first | omega | assumption | decide) hn)
              refine AB.gu 6 rfl (by decide +kernel) rfl rfl rfl (Dtu.mv (lk rfl)) rfl ?_
              refine AB.gd 7 rfl (by decide +kernel) rfl rfl rfl rfl (Det.bstr Try.underlying32 Try.underlying5 Try.underlying9 (lk rfl) (Sl.osl 5 rfl)) rfl ?_
              refine AB.gd 8 rfl (by decide +kernel) rfl rfl rfl rfl (Det.lda Try.isAgg30 Try.sizeOf30 (lk rfl) (Rds.ow (m := 6) 6 rfl rfl) rfl) rfl ?_
              refine AB.gs 9 rfl (by decide +kernel) (by decide +kernel) rfl rfl rfl (Stp.call rfl Try.call31 (lks rfl) (fun E' le hat => rwrite_ok E' (View.mk vr vc cells vo vl vv) (.slice xa xm xc) (Sl.at (hat _ (.tail _ (.tail _ (.tail _ (.tail _ (.tail _ (.tail _ (.tail _ (.tail _ (.head _))))))))))) fv hk) ?_) rfl
              rintro _ _ ⟨s107, rfl, rfl⟩
              refine AB.gd 10 rfl (by decide +kernel) rfl rfl rfl rfl (Det.bstr Try.underlying32 Try.underlying5 Try.underlying9 (lk rfl) (Sl.osl 0 rfl)) rfl ?_
              refine AB.gu 11 rfl (by decide +kernel) rfl rfl rfl (Dtu.eqStr (lk rfl) (lk rfl)) rfl ?_
              refine AB.u 12 rfl (by decide +kernel) (Dtu.pickT (lk rfl) (lk rfl)) rfl ?_
              refine AB.u 13 rfl (by decide +kernel) (Dtu.asg (lk rfl)) rfl ?_
              refine AB.done (by decide +kernel) ?_
              refine Then.next ?_
              refine Body.ret ?_
              exact ⟨.inr rfl, _, pk [] rfl, bool_eq (by simp [hw2]), rfl⟩
          · refine AB.gn 31 rfl (by decide +kernel) rfl rfl rfl rfl rfl ?_
            refine AB.gn 32 rfl (by decide +kernel) rfl rfl rfl rfl rfl ?_
            refine AB.gu 33 rfl (by decide +kernel) rfl rfl rfl (Dtu.pickF (lk rfl) (lk rfl)) rfl ?_
            refine AB.u 34 rfl (by decide +kernel) (Dtu.pickF (lk rfl) (lk rfl)) rfl ?_
            refine AB.done (by decide +kernel) ?_
            refine Then.next ?_
            refine Body.condF (lk rfl) ?_
            refine Body.skip ?_
            refine Then.next ?_
            refine Body.seq ?_
            refine Body.seq ?_
            refine Body.region ?_
            refine Ops.d (Det.lda Try.isAgg30 Try.sizeOf30 (lk rfl) (Rds.ow (m := 6) 6 rfl rfl) rfl) rfl ?_
            refine Ops.s (Stp.call rfl Try.call18 (lks rfl) (fun E' le hat => rright_ok E' (View.mk vr vc cells vo vl vv) (.slice xa xm xc) (Sl.at (hat _ (.tail _ (.tail _ (.tail _ (.tail _ (.tail _ (.tail _ (.tail _ (.tail _ (.head _))))))))))) gv) ?_) rfl
            rintro _ _ ⟨rfl, rfl⟩
            cases hk : View.ok (View.mk vr vc cells vo vl vv) with
            | false =>
              have hw : View.wE (View.mk vr vc cells vo vl vv) = 3 := by simp [View.wE, hk]
              have hw2 : View.wB (View.mk vr vc cells vo vl vv) = [] := by simp [View.wB, hk]
              refine Ops.u (Dtu.not (lk rfl)) rfl ?_
              refine Ops.nil ?_
              refine Then.next ?_
              refine Body.condT (lk rfl) ?_
              refine Body.seq ?_
              refine Body.region ?_
              refine Ops.s (Stp.call rfl Try.call27 (lks rfl) (fun E' le hat => alive20_ok E') ?_) rfl
              rintro _ _ ⟨rfl, rfl⟩
              refine Ops.u (Dtu.mv (lk rfl)) rfl ?_
              refine Ops.gu rfl rfl rfl (Dtu.mv (lk rfl)) rfl ?_
              refine Ops.gu rfl rfl rfl (Dtu.eql (lk rfl) (lk rfl)) rfl ?_
              refine Ops.u (Dtu.pickT (lk rfl) (lk rfl)) rfl ?_
              refine Ops.u (Dtu.mv (lk rfl)) rfl ?_
              refine Ops.decP 93 rfl (fun _ => ?_) (fun hn => absurd (by first | omega | assumption | decide) hn)
              refine Ops.gu rfl rfl rfl (Dtu.mv (lk rfl)) rfl ?_
              refine Ops.gu rfl rfl rfl (Dtu.lenS Try.underlying32 (Sl.osl 5 rfl) (lk rfl)) rfl ?_
              refine Ops.gu rfl rfl rfl (Dtu.eql (lk rfl) (lk rfl)) rfl ?_
              refine Ops.u (Dtu.pickT (lk rfl) (lk rfl)) rfl ?_
              refine Ops.u (Dtu.asg (lk rfl)) rfl ?_
              refine Ops.nil ?_
              refine Then.next ?_
              refine Body.ret ?_
              refine Then.ret ?_
              exact ⟨.inr rfl, _, pk [] rfl, bool_eq (by simp [hw2]), rfl⟩
            | true =>
              have hw : View.wE (View.mk vr vc cells vo vl vv) = 0 := by simp [View.wE, hk]
              have hw2 : View.wB (View.mk vr vc cells vo vl vv) = View.bytes (View.mk vr vc cells vo vl vv) := by simp [View.wB, hk]
              refine Ops.u (Dtu.not (lk rfl)) rfl ?_
              refine Ops.nil ?_
              refine Then.next ?_
              refine Body.condF (lk rfl) ?_
              refine Body.skip ?_
              refine Then.next ?_
              refine Body.seq ?_
              refine Body.draw mixed ?_
              refine AB.s 0 rfl (by decide +kernel) (by decide +kernel) (Stp.call rfl Try.call27 (lks rfl) (fun E' le hat => alive20_ok E') ?_) rfl
              rintro _ _ ⟨rfl, rfl⟩
              refine AB.u 1 rfl (by decide +kernel) (Dtu.mv (lk rfl)) rfl ?_
              refine AB.gu 2 rfl (by decide +kernel) rfl rfl rfl (Dtu.mv (lk rfl)) rfl ?_
              refine AB.gu 3 rfl (by decide +kernel) rfl rfl rfl (Dtu.eql (lk rfl) (lk rfl)) rfl ?_
              refine AB.u 4 rfl (by decide +kernel) (Dtu.pickT (lk rfl) (lk rfl)) rfl ?_
              refine AB.u 5 rfl (by decide +kernel) (Dtu.mv (lk rfl)) rfl ?_
              refine AB.decP 103 rfl (fun _ => ?_) (fun hn => absurd (by first | omega | assumption | decide) hn)
              refine AB.gu 6 rfl (by decide +kernel) rfl rfl rfl (Dtu.mv (lk rfl)) rfl ?_
              refine AB.gd 7 rfl (by decide +kernel) rfl rfl rfl rfl (Det.bstr Try.underlying32 Try.underlying5 Try.underlying9 (lk rfl) (Sl.osl 5 rfl)) rfl ?_
              refine AB.gd 8 rfl (by decide +kernel) rfl rfl rfl rfl (Det.lda Try.isAgg30 Try.sizeOf30 (lk rfl) (Rds.ow (m := 6) 6 rfl rfl) rfl) rfl ?_
              refine AB.gs 9 rfl (by decide +kernel) (by decide +kernel) rfl rfl rfl (Stp.call rfl Try.call31 (lks rfl) (fun E' le hat => rwrite_ok E' (View.mk vr vc cells vo vl vv) (.slice xa xm xc) (Sl.at (hat _ (.tail _ (.tail _ (.tail _ (.tail _ (.tail _ (.tail _ (.tail _ (.tail _ (.head _))))))))))) fv hk) ?_) rfl
              rintro _ _ ⟨s107, rfl, rfl⟩
              refine AB.gd 10 rfl (by decide +kernel) rfl rfl rfl rfl (Det.bstr Try.underlying32 Try.underlying5 Try.underlying9 (lk rfl) (Sl.osl 0 rfl)) rfl ?_
              refine AB.gu 11 rfl (by decide +kernel) rfl rfl rfl (Dtu.eqStr (lk rfl) (lk rfl)) rfl ?_
              refine AB.u 12 rfl (by decide +kernel) (Dtu.pickT (lk rfl) (lk rfl)) rfl ?_
              refine AB.u 13 rfl (by decide +kernel) (Dtu.asg (lk rfl)) rfl ?_
              refine AB.done (by decide +kernel) ?_
              refine Then.next ?_
              refine Body.ret ?_
              exact ⟨.inr rfl, _, pk [] rfl, bool_eq (by simp [hw2]), rfl⟩
end Go.Proofs.Ytijjjdljdjnbaaa
