/- ViewBack. -/
import Derived.Test.YtijjjdljdjnbaaaWR
namespace Go.Proofs.Ytijjjdljdjnbaaa
set_option maxRecDepth 100000
set_option linter.unusedVariables false
set_option linter.unusedSimpArgs false
open Go.Sx

theorem read_back (E : Env) (V : View) (hok : V.ok = true) (hf : ∀ c ∈ V.cells, c.Fl) (s : Value) (h : Sl E [] 1 s V.wB.length (V.wB.map (.int .u8))) : Does Try.prog 29 #[s] E [] fun r H' => ∃ s', r = .tuple #[V.val s', .int .i64 0] ∧ H' = [osl 55 4 s' V.cells.length (V.cells.flatMap Cell.enc)] := by
  have h1 := read_ok E s V.wB h (wB_byt hf)
  have hw : V.wB = V.bytes := by simp [View.wB, hok]
  rw [hw, readV_bytes hok] at h1
  exact h1
theorem back_ok (E : Env) (v o : View) (s t b : Value) (bs : List Int) (hv : v.has E [] s) (ho : o.has E [] t) (hb : Sl E [] 1 b bs.length (bs.map (.int .u8))) (hbt : Byt bs) (fv : ∀ c ∈ v.cells, c.Fl) (fo : ∀ c ∈ o.cells, c.Fl) :
    Does Try.prog 9 #[v.val s, o.val t, b] E [] fun r H' => r = .bool true ∧ H' = [] := by
  have bv := wB_byt fv
  have bo := wB_byt fo
  obtain ⟨vr, vc, cells, vo, vl, vv⟩ := v
  obtain ⟨wr, wc, dells, wo, wl, wv⟩ := o
  unfold View.has at hv ho
  dsimp only at hv ho
  refine Does.pure hv.isSl fun hsl => ?_
  obtain ⟨sa, sm, sc, rfl⟩ := hsl
  refine Does.pure ho.isSl fun hsl => ?_
  obtain ⟨ta, tm, tc, rfl⟩ := hsl
  refine Does.go (args := [View.val ⟨vr, vc, cells, vo, vl, vv⟩ (.slice sa sm sc), View.val ⟨wr, wc, dells, wo, wl, wv⟩ (.slice ta tm tc), b]) _ _ Try.func9 rfl Try.ntmps9 rfl rfl ?_
  refine Body.seq ?_
  refine Body.region ?_
  refine Ops.s (Stp.box (lk rfl) rfl (fun b3 => ?_)) rfl
  refine Ops.s (Stp.box (lk rfl) rfl (fun b4 => ?_)) rfl
  refine Ops.u (Dtu.asg (lk rfl)) rfl ?_
  refine Ops.nil ?_
  refine Then.next ?_
  refine Body.seq ?_
  refine Body.seq ?_
  refine Body.region ?_
  refine Ops.u (Dtu.fld fa24_2 (lk rfl)) rfl ?_
  refine Ops.d (Det.ld Try.isAgg22 (lk rfl) (Rd.ow 1 rfl rfl)) rfl ?_
  refine Ops.u (Dtu.lenS Try.underlying22 (Sl.up hv) (lk rfl)) rfl ?_
  refine Ops.u (Dtu.gtr (lk rfl) (lk rfl)) rfl ?_
  refine Ops.u (Dtu.mv (lk rfl)) rfl ?_
  refine Ops.decP 21 rfl (fun c21 => ?_) (fun c21 => ?_)
  · refine Ops.gn rfl rfl rfl rfl rfl ?_
    refine Ops.gn rfl rfl rfl rfl rfl ?_
    refine Ops.gn rfl rfl rfl rfl rfl ?_
    refine Ops.gn rfl rfl rfl rfl rfl ?_
    refine Ops.u (Dtu.pickT (lk rfl) (lk rfl)) rfl ?_
    refine Ops.u (Dtu.mv (lk rfl)) rfl ?_
    refine Ops.gn rfl rfl rfl rfl rfl ?_
    refine Ops.gn rfl rfl rfl rfl rfl ?_
    refine Ops.gn rfl rfl rfl rfl rfl ?_
    refine Ops.u (Dtu.pickT (lk rfl) (lk rfl)) rfl ?_
    refine Ops.nil ?_
    refine Then.next ?_
    refine Body.condT (lk rfl) ?_
    refine Body.seq ?_
    refine Body.region ?_
    refine Ops.s (Stp.call rfl Try.call27 (lks rfl) (fun E' le hat => alive20_ok E') ?_) rfl
    rintro _ _ ⟨rfl, rfl⟩
    refine Ops.u (Dtu.asg (lk rfl)) rfl ?_
    refine Ops.nil ?_
    refine Then.next ?_
    refine Body.ret ?_
    refine Then.ret ?_
    exact ⟨.inr rfl, _, pk [] rfl, rfl, rfl⟩
  · refine Ops.gu rfl rfl rfl (Dtu.fld fa24_2 (lk rfl)) rfl ?_
    refine Ops.gd rfl rfl rfl (Det.ld Try.isAgg22 (lk rfl) (Rd.ow 0 rfl rfl)) rfl ?_
    refine Ops.gu rfl rfl rfl (Dtu.lenS Try.underlying22 (Sl.up ho) (lk rfl)) rfl ?_
    refine Ops.gu rfl rfl rfl (Dtu.gtr (lk rfl) (lk rfl)) rfl ?_
    refine Ops.u (Dtu.pickF (lk rfl) (lk rfl)) rfl ?_
    refine Ops.u (Dtu.mv (lk rfl)) rfl ?_
    refine Ops.decP 27 rfl (fun c27 => ?_) (fun c27 => ?_)
    · refine Ops.gn rfl rfl rfl rfl rfl ?_
      refine Ops.gn rfl rfl rfl rfl rfl ?_
      refine Ops.gn rfl rfl rfl rfl rfl ?_
      refine Ops.u (Dtu.pickT (lk rfl) (lk rfl)) rfl ?_
      refine Ops.nil ?_
      refine Then.next ?_
      refine Body.condT (lk rfl) ?_
      refine Body.seq ?_
      refine Body.region ?_
      refine Ops.s (Stp.call rfl Try.call27 (lks rfl) (fun E' le hat => alive20_ok E') ?_) rfl
      rintro _ _ ⟨rfl, rfl⟩
      refine Ops.u (Dtu.asg (lk rfl)) rfl ?_
      refine Ops.nil ?_
      refine Then.next ?_
      refine Body.ret ?_
      refine Then.ret ?_
      exact ⟨.inr rfl, _, pk [] rfl, rfl, rfl⟩
    · refine Ops.gu rfl rfl rfl (Dtu.mv (lk rfl)) rfl ?_
      refine Ops.gu rfl rfl rfl (Dtu.lenS Try.underlying32 (Sl.up hb) (lk rfl)) rfl ?_
      refine Ops.gu rfl rfl rfl (Dtu.gtr (lk rfl) (lk rfl)) rfl ?_
      refine Ops.u (Dtu.pickF (lk rfl) (lk rfl)) rfl ?_
      refine Ops.nil ?_
      refine Then.next ?_
      refine Body.condP (lk rfl) (fun c31 => ?_) (fun c31 => ?_)
      · refine Body.seq ?_
        refine Body.region ?_
        refine Ops.s (Stp.call rfl Try.call27 (lks rfl) (fun E' le hat => alive20_ok E') ?_) rfl
        rintro _ _ ⟨rfl, rfl⟩
        refine Ops.u (Dtu.asg (lk rfl)) rfl ?_
        refine Ops.nil ?_
        refine Then.next ?_
        refine Body.ret ?_
        refine Then.ret ?_
        exact ⟨.inr rfl, _, pk [] rfl, rfl, rfl⟩
      · refine Body.skip ?_
        refine Then.next ?_
        refine Body.seq ?_
        refine Body.region ?_
        refine Ops.d (Det.lda Try.isAgg24 Try.sizeOf24 (lk rfl) (Rds.ow (m := 6) 1 rfl rfl) rfl) rfl ?_
        refine Ops.s (Stp.call rfl Try.call28 (lks rfl) (fun E' le hat => write_any E' ⟨vr, vc, cells, vo, vl, vv⟩ _ (Sl.mono hv le)) ?_) rfl
        rintro _ _ ⟨s35, rfl, rfl⟩
        refine Ops.u (Dtu.mv (lk rfl)) rfl ?_
        refine Ops.u (Dtu.ext (lk rfl) rfl) rfl ?_
        refine Ops.u (Dtu.ext (lk rfl) rfl) rfl ?_
        refine Ops.u (Dtu.asg (lk rfl)) rfl ?_
        refine Ops.u (Dtu.asg (lk rfl)) rfl ?_
        refine Ops.nil ?_
        refine Then.next ?_
        refine Body.seq ?_
        refine Body.region ?_
        refine Ops.d (Det.lda Try.isAgg24 Try.sizeOf24 (lk rfl) (Rds.ow (m := 6) 1 rfl rfl) rfl) rfl ?_
        refine Ops.s (Stp.call rfl Try.call28 (lks rfl) (fun E' le hat => write_any E' ⟨wr, wc, dells, wo, wl, wv⟩ _ (Sl.mono ho le)) ?_) rfl
        rintro _ _ ⟨s40, rfl, rfl⟩
        refine Ops.u (Dtu.mv (lk rfl)) rfl ?_
        refine Ops.u (Dtu.ext (lk rfl) rfl) rfl ?_
        refine Ops.u (Dtu.ext (lk rfl) rfl) rfl ?_
        refine Ops.u (Dtu.asg (lk rfl)) rfl ?_
        refine Ops.u (Dtu.asg (lk rfl)) rfl ?_
        refine Ops.nil ?_
        refine Then.next ?_
        refine Body.seqJ (γ := Unit) rfl (fun _ => []) (fun _ => []) (fun _ => True) ?_ ?_
        · generalize hV : View.mk vr vc cells vo vl vv = V at *
          refine Body.seq ?_
          refine Body.region ?_
          refine Ops.u (Dtu.mv (lk rfl)) rfl ?_
          refine Ops.u (Dtu.eql (lk rfl) (lk rfl)) rfl ?_
          refine Ops.nil ?_
          refine Then.next ?_
          refine Body.condP (lk rfl) (fun c44 => ?_) (fun c44 => ?_)
          · have hok : V.ok = true := by
              cases hk : V.ok with
              | true => rfl
              | false => simp [View.wE, hk] at c44
            refine Body.seq ?_
            refine Body.region ?_
            refine Ops.u (Dtu.mv (lk rfl)) rfl ?_
            refine Ops.s (Stp.call rfl Try.call29 (lks rfl) (fun E' le hat => read_back E' V hok fv _ (Sl.at (hat _ (.tail _ (.head _))))) ?_) rfl
            rintro _ _ ⟨s47, rfl, rfl⟩
            refine Ops.u (Dtu.mv (lk rfl)) rfl ?_
            refine Ops.u (Dtu.ext (lk rfl) rfl) rfl ?_
            refine Ops.u (Dtu.ext (lk rfl) rfl) rfl ?_
            refine Ops.s (Stp.alloc ty24 (fun b11 => ?_)) rfl
            refine Ops.pure (Sl.isSl (Sl.osl 1 rfl)) fun h47 => ?_
            obtain ⟨a47, m47, c47, rfl⟩ := h47
            have hv' : V.has E [] (.slice sa sm sc) := by rw [← hV]; exact hv
            have hVV : V = V := rfl
            have hVV2 : ¬ ¬ (V = V) := fun h => h rfl
            refine Ops.e (Stp.store 0 Try.sizeOf24 (lk rfl) (lk rfl) rfl rfl rfl rfl rfl rfl rfl ?_)
            refine Ops.u (Dtu.asg (lk rfl)) rfl ?_
            refine Ops.nil ?_
            refine Then.next ?_
            refine Body.seq ?_
            refine Body.draw mixed ?_
            refine AB.u 0 rfl (by decide +kernel) (Dtu.mv (lk rfl)) rfl ?_
            refine AB.u 1 rfl (by decide +kernel) (Dtu.neq (lk rfl) (lk rfl)) rfl ?_
            refine AB.u 2 rfl (by decide +kernel) (Dtu.mv (lk rfl)) rfl ?_
            refine AB.decP 52 rfl (fun hy => absurd hy (by first | omega | assumption | decide)) (fun _ => ?_)
            refine AB.gd 3 rfl (by decide +kernel) rfl rfl rfl rfl (Det.lda Try.isAgg24 Try.sizeOf24 (lk rfl) (Rds.ow (m := 6) 0 rfl rfl) rfl) rfl ?_
            refine AB.gd 4 rfl (by decide +kernel) rfl rfl rfl rfl (Det.lda Try.isAgg24 Try.sizeOf24 (lk rfl) (Rds.ow (m := 6) 5 rfl rfl) rfl) rfl ?_
            refine AB.gs 5 rfl (by decide +kernel) (by decide +kernel) rfl rfl rfl (Stp.call rfl Try.call26 (lks rfl) (fun E' le hat => same_ok E' V V (.slice a47 m47 c47) (.slice sa sm sc) (Sl.at (hat _ (.tail _ (.head _)))) (Sl.mono hv' le)) ?_) rfl
            rintro _ _ ⟨rfl, rfl⟩
            generalize hO : View.mk wr wc dells wo wl wv = O at *
            have ho' : O.has E [] (.slice ta tm tc) := by rw [← hO]; exact ho
            refine AB.gu 6 rfl (by decide +kernel) rfl rfl rfl (Dtu.notP (lk rfl)) rfl ?_
            refine AB.u 7 rfl (by decide +kernel) (Dtu.pickF (lk rfl) (lk rfl)) rfl ?_
            refine AB.u 8 rfl (by decide +kernel) (Dtu.mv (lk rfl)) rfl ?_
            refine AB.decP 58 rfl (fun hy => absurd hy (by first | omega | assumption | decide)) (fun _ => ?_)
            refine AB.gu 9 rfl (by decide +kernel) rfl rfl rfl (Dtu.mv (lk rfl)) rfl ?_
            refine AB.gu 10 rfl (by decide +kernel) rfl rfl rfl (Dtu.eql (lk rfl) (lk rfl)) rfl ?_
            refine AB.gu 11 rfl (by decide +kernel) rfl rfl rfl (Dtu.mv (lk rfl)) rfl ?_
            refine AB.decP 61 rfl (fun c61 => ?_) (fun c61 => ?_)
            · have hok2 : O.ok = true := by
                cases hk : O.ok with
                | true => rfl
                | false => simp [View.wE, hk] at c61
              have hne : ¬ (decide ((strOfNums V.wB).toList = (strOfNums O.wB).toList) ≠ decide (V = O)) := by
                have h1 : V.wB = V.bytes := by simp [View.wB, hok]
                have h2 : O.wB = O.bytes := by simp [View.wB, hok2]
                have h3 := strOfNums_inj bv bo
                have h4 : V.wB = O.wB ↔ V = O := by rw [h1, h2]; exact bytes_inj hok hok2
                simp only [h3, h4]; simp
              refine AB.gu 12 rfl (by decide +kernel) rfl rfl rfl (Dtu.mv (lk rfl)) rfl ?_
              refine AB.gd 13 rfl (by decide +kernel) rfl rfl rfl rfl (Det.bstr Try.underlying32 Try.underlying5 Try.underlying9 (lk rfl) (Sl.osl 3 rfl)) rfl ?_
              refine AB.gu 14 rfl (by decide +kernel) rfl rfl rfl (Dtu.mv (lk rfl)) rfl ?_
              refine AB.gd 15 rfl (by decide +kernel) rfl rfl rfl rfl (Det.bstr Try.underlying32 Try.underlying5 Try.underlying9 (lk rfl) (Sl.osl 2 rfl)) rfl ?_
              refine AB.gu 16 rfl (by decide +kernel) rfl rfl rfl (Dtu.eqStr (lk rfl) (lk rfl)) rfl ?_
              refine AB.gd 17 rfl (by decide +kernel) rfl rfl rfl rfl (Det.lda Try.isAgg24 Try.sizeOf24 (lk rfl) (Rds.ow (m := 6) 5 rfl rfl) rfl) rfl ?_
              refine AB.gd 18 rfl (by decide +kernel) rfl rfl rfl rfl (Det.lda Try.isAgg24 Try.sizeOf24 (lk rfl) (Rds.ow (m := 6) 4 rfl rfl) rfl) rfl ?_
              refine AB.gs 19 rfl (by decide +kernel) (by decide +kernel) rfl rfl rfl (Stp.call rfl Try.call26 (lks rfl) (fun E' le hat => same_ok E' ⟨_, _, _, _, _, _⟩ ⟨_, _, _, _, _, _⟩ _ _ (Sl.mono (by assumption) le) (Sl.mono (by assumption) le)) ?_) rfl
              rintro _ _ ⟨rfl, rfl⟩
              refine AB.gu 20 rfl (by decide +kernel) rfl rfl rfl (Dtu.neB Try.underlying4 (lk rfl) (lk rfl)) rfl ?_
              refine AB.gu 21 rfl (by decide +kernel) rfl rfl rfl (Dtu.pickT (lk rfl) (lk rfl)) rfl ?_
              refine AB.u 22 rfl (by decide +kernel) (Dtu.pickF (lk rfl) (lk rfl)) rfl ?_
              refine AB.done (by decide +kernel) ?_
              refine Then.next ?_
              refine Body.condP (lk rfl) (fun hy => absurd hy (by first | omega | assumption | decide)) (fun _ => ?_)
              refine Body.skip ?_
              exact Joint.goK [] () rfl rfl rfl trivial rfl rfl trivial
            · refine AB.gn 12 rfl (by decide +kernel) rfl rfl rfl rfl rfl ?_
              refine AB.gn 13 rfl (by decide +kernel) rfl rfl rfl rfl rfl ?_
              refine AB.gn 14 rfl (by decide +kernel) rfl rfl rfl rfl rfl ?_
              refine AB.gn 15 rfl (by decide +kernel) rfl rfl rfl rfl rfl ?_
              refine AB.gn 16 rfl (by decide +kernel) rfl rfl rfl rfl rfl ?_
              refine AB.gn 17 rfl (by decide +kernel) rfl rfl rfl rfl rfl ?_
              refine AB.gn 18 rfl (by decide +kernel) rfl rfl rfl rfl rfl ?_
              refine AB.gn 19 rfl (by decide +kernel) rfl rfl rfl rfl rfl ?_
              refine AB.gn 20 rfl (by decide +kernel) rfl rfl rfl rfl rfl ?_
              refine AB.gu 21 rfl (by decide +kernel) rfl rfl rfl (Dtu.pickF (lk rfl) (lk rfl)) rfl ?_
              refine AB.u 22 rfl (by decide +kernel) (Dtu.pickF (lk rfl) (lk rfl)) rfl ?_
              refine AB.done (by decide +kernel) ?_
              refine Then.next ?_
              refine Body.condF (lk rfl) ?_
              refine Body.skip ?_
              exact Joint.goK [] () rfl rfl rfl trivial rfl rfl trivial
          · refine Body.skip ?_
            exact Joint.goK [] () rfl rfl rfl trivial rfl rfl trivial
        · intro _ u _
          have hfin : rdE bs = 0 → (rdV bs).wE = 0 ∧ (rdV bs).wB = bs := fun h0 => by
            cases hr : readV bs with
            | none => simp [rdE, hr] at h0
            | some q =>
              obtain ⟨k1, k2⟩ := readV_some hr
              simp [rdV, hr, View.wE, View.wB, k1, k2]
          refine Body.seq ?_
          refine Body.region ?_
          refine Ops.u (Dtu.mv (lk rfl)) rfl ?_
          refine Ops.s (Stp.call rfl Try.call29 (lks rfl) (fun E' le hat => read_any E' _ _ (Sl.mono hb le) hbt) ?_) rfl
          rintro _ _ ⟨s75, rfl, rfl⟩
          refine Ops.u (Dtu.mv (lk rfl)) rfl ?_
          refine Ops.u (Dtu.ext (lk rfl) rfl) rfl ?_
          refine Ops.u (Dtu.ext (lk rfl) rfl) rfl ?_
          refine Ops.s (Stp.alloc ty24 (fun b13 => ?_)) rfl
          refine Ops.pure (Sl.isSl (Sl.osl 1 rfl)) fun h75 => ?_
          obtain ⟨a75, m75, c75, rfl⟩ := h75
          refine Ops.e (Stp.store 0 Try.sizeOf24 (lk rfl) (lk rfl) rfl rfl rfl rfl rfl rfl rfl ?_)
          refine Ops.u (Dtu.asg (lk rfl)) rfl ?_
          refine Ops.nil ?_
          refine Then.next ?_
          refine Body.seq ?_
          refine Body.region ?_
          refine Ops.d (Det.lda Try.isAgg24 Try.sizeOf24 (lk rfl) (Rds.ow (m := 6) 0 rfl rfl) rfl) rfl ?_
          refine Ops.s (Stp.call rfl Try.call28 (lks rfl) (fun E' le hat => write_any E' (rdV bs) _ (Sl.at (hat _ (.tail _ (.head _))))) ?_) rfl
          rintro _ _ ⟨s80, rfl, rfl⟩
          refine Ops.u (Dtu.mv (lk rfl)) rfl ?_
          refine Ops.u (Dtu.ext (lk rfl) rfl) rfl ?_
          refine Ops.u (Dtu.ext (lk rfl) rfl) rfl ?_
          refine Ops.u (Dtu.asg (lk rfl)) rfl ?_
          refine Ops.u (Dtu.asg (lk rfl)) rfl ?_
          refine Ops.nil ?_
          refine Then.next ?_
          refine Body.seq ?_
          refine Body.region ?_
          refine Ops.s (Stp.call rfl Try.call27 (lks rfl) (fun E' le hat => alive20_ok E') ?_) rfl
          rintro _ _ ⟨rfl, rfl⟩
          refine Ops.u (Dtu.mv (lk rfl)) rfl ?_
          refine Ops.gu rfl rfl rfl (Dtu.mv (lk rfl)) rfl ?_
          refine Ops.gu rfl rfl rfl (Dtu.neq (lk rfl) (lk rfl)) rfl ?_
          refine Ops.gu rfl rfl rfl (Dtu.mv (lk rfl)) rfl ?_
          refine Ops.decP 87 rfl (fun c87 => ?_) (fun c87 => ?_)
          · refine Ops.gn rfl rfl rfl rfl rfl ?_
            refine Ops.gn rfl rfl rfl rfl rfl ?_
            refine Ops.gn rfl rfl rfl rfl rfl ?_
            refine Ops.gn rfl rfl rfl rfl rfl ?_
            refine Ops.gn rfl rfl rfl rfl rfl ?_
            refine Ops.gn rfl rfl rfl rfl rfl ?_
            refine Ops.gn rfl rfl rfl rfl rfl ?_
            refine Ops.gn rfl rfl rfl rfl rfl ?_
            refine Ops.gn rfl rfl rfl rfl rfl ?_
            refine Ops.gu rfl rfl rfl (Dtu.pickT (lk rfl) (lk rfl)) rfl ?_
            refine Ops.u (Dtu.pickT (lk rfl) (lk rfl)) rfl ?_
            refine Ops.u (Dtu.asg (lk rfl)) rfl ?_
            refine Ops.nil ?_
            refine Then.next ?_
            refine Body.ret ?_
            exact ⟨.inr rfl, _, pk [] rfl, rfl, rfl⟩
          · obtain ⟨k1, k2⟩ := hfin (by omega)
            have k3 : (strOfNums (rdV bs).wB).toList = (strOfNums bs).toList := by rw [k2]
            refine Ops.gu rfl rfl rfl (Dtu.mv (lk rfl)) rfl ?_
            refine Ops.gu rfl rfl rfl (Dtu.eql (lk rfl) (lk rfl)) rfl ?_
            refine Ops.gu rfl rfl rfl (Dtu.mv (lk rfl)) rfl ?_
            refine Ops.decP 90 rfl (fun _ => ?_) (fun hn => absurd (by first | omega | assumption | decide) hn)
            refine Ops.gu rfl rfl rfl (Dtu.mv (lk rfl)) rfl ?_
            refine Ops.gd rfl rfl rfl (Det.bstr Try.underlying32 Try.underlying5 Try.underlying9 (lk rfl) (Sl.osl 0 rfl)) rfl ?_
            refine Ops.gu rfl rfl rfl (Dtu.mv (lk rfl)) rfl ?_
            refine Ops.gd rfl rfl rfl (Det.bstr Try.underlying32 Try.underlying5 Try.underlying9 (lk rfl) (Sl.up hb)) rfl ?_
            refine Ops.gu rfl rfl rfl (Dtu.eqStr (lk rfl) (lk rfl)) rfl ?_
            refine Ops.gu rfl rfl rfl (Dtu.pickT (lk rfl) (lk rfl)) rfl ?_
            refine Ops.gu rfl rfl rfl (Dtu.pickF (lk rfl) (lk rfl)) rfl ?_
            refine Ops.u (Dtu.pickT (lk rfl) (lk rfl)) rfl ?_
            refine Ops.u (Dtu.asg (lk rfl)) rfl ?_
            refine Ops.nil ?_
            refine Then.next ?_
            refine Body.ret ?_
            exact ⟨.inr rfl, _, pk [] rfl, bool_eq (by simp [k3]), rfl⟩
end Go.Proofs.Ytijjjdljdjnbaaa
