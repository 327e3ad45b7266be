/- Qi: RefO, RefP, RefQ. -/
import Derived.Test.YtijjjdljdjnbaaaRaa
import Derived.Test.YtijjjdljdjnbaaaRab
import Derived.Test.YtijjjdljdjnbaaaRac
import Derived.Test.YtijjjdljdjnbaaaRad
import Derived.Test.YtijjjdljdjnbaaaRae
import Derived.Test.YtijjjdljdjnbaaaRaf
import Derived.Test.YtijjjdljdjnbaaaRag
import Derived.Test.YtijjjdljdjnbaaaRah
section
/- The document's patches: Runs. -/
namespace Go.Proofs.Ytijjjdljdjnbaaa
set_option maxRecDepth 100000
set_option linter.unusedVariables false
set_option linter.unusedSimpArgs false
open Go.Sx

def runsO (bs : List Int) : Bool := (runsP bs).isSome
set_option maxHeartbeats 3200000 in
theorem rruns_ok (E : Env) (b : Value) (bs : List Int) (h : Sl E [] 1 b bs.length (bs.map (.int .u8))) (hb : Byt bs) (hmax : bs.length ≤ 100000) : Does Try.prog 23 #[b] E [] fun r H' => r = .tuple #[.int .i64 (runsK bs), .bool (runsO bs)] ∧ H' = [] := by
  refine Does.pure h.len fun hlen => ?_
  refine Does.go (args := [b]) _ _ Try.func23 rfl Try.ntmps23 rfl rfl ?_
  have hnone : runsP bs = none → runsK bs = 0 ∧ runsO bs = false := fun h => by simp [runsK, runsO, h]
  have hsome : ∀ rs, runsP bs = some rs → runsK bs = rs.length ∧ runsO bs = true := fun rs h => by simp [runsK, runsO, h]
  refine Body.seq ?_
  refine Body.region ?_
  refine Ops.u (Dtu.asg (lk rfl)) rfl ?_
  refine Ops.u (Dtu.asg (lk rfl)) rfl ?_
  refine Ops.nil ?_
  refine Then.next ?_
  refine Body.seq ?_
  refine Body.seq ?_
  refine Body.region ?_
  refine Ops.u (Dtu.mv (lk rfl)) rfl ?_
  refine Ops.u (Dtu.lenS Try.underlying32 (Sl.up h) (lk rfl)) rfl ?_
  refine Ops.u (Dtu.lss (lk rfl) (lk rfl)) rfl ?_
  refine Ops.nil ?_
  refine Then.next ?_
  refine Body.condP (lk rfl) (fun c17 => ?_) (fun c17 => ?_)
  · obtain ⟨k1, k2⟩ := hnone (by unfold runsP; rw [if_pos (by omega)])
    rw [k1, k2]
    refine Body.seq ?_
    refine Body.region ?_
    refine Ops.u (Dtu.asg (lk rfl)) rfl ?_
    refine Ops.u (Dtu.asg (lk rfl)) rfl ?_
    refine Ops.nil ?_
    refine Then.next ?_
    refine Body.ret ?_
    refine Then.ret ?_
    exact ⟨.inr rfl, _, pk [] rfl, rfl, rfl⟩
  · have hr0 : runsP bs = readRs bs (bs.length + 1) [] 5 := by unfold runsP; rw [if_neg (by omega)]
    refine Body.skip ?_
    refine Then.next ?_
    refine Body.seq ?_
    refine Body.region ?_
    refine Ops.u (Dtu.asg (lk rfl)) rfl ?_
    refine Ops.u (Dtu.asg (lk rfl)) rfl ?_
    refine Ops.nil ?_
    refine Then.next ?_
    refine Body.seq ?_
    refine Body.block ?_
    refine Body.loopF (γ := Nat × List Run × Int) rfl (fun g => [(4, .int .i64 g.2.2), (5, .int .i64 g.2.1.length)]) (fun g => [])
      (fun g => readRs bs g.1 g.2.1 g.2.2 = runsP bs ∧ 5 ≤ g.2.2 ∧ g.2.2 ≤ bs.length ∧ (bs.length : Int) - g.2.2 < g.1 ∧ (g.2.1.length : Int) ≤ g.2.2) (fun g => g.1) (bs.length + 1, [], 5) ⟨hr0.symm, by simp, by simp; omega, by simp; omega, by simp⟩ ⟨rfl, rfl, trivial⟩ rfl ?_
    rintro ⟨k, L, a⟩ u ⟨hr, ha0, ha1, hk, hn⟩
    dsimp only at hr ha0 ha1 hk hn ⊢
    obtain ⟨k, rfl⟩ : ∃ k', k = k' + 1 := ⟨k - 1, by omega⟩
    have g1 := getS_bound bs hb a
    have g2 := getS_next bs a
    have g3 := getS_bound bs hb (getS bs a).2.1
    have g4 := getS_next bs (getS bs a).2.1
    rw [readRs] at hr
    refine Body.seq ?_
    refine Body.seq ?_
    refine Body.region ?_
    refine Ops.u (Dtu.mv (lk rfl)) rfl ?_
    refine Ops.u (Dtu.mv (lk rfl)) rfl ?_
    refine Ops.u (Dtu.lenS Try.underlying32 (Sl.up h) (lk rfl)) rfl ?_
    refine Ops.u (Dtu.lss (lk rfl) (lk rfl)) rfl ?_
    refine Ops.nil ?_
    refine Then.next ?_
    refine Body.condP (lk rfl) (fun c21 => ?_) (fun c21 => ?_)
    · rw [if_pos (by omega)] at hr
      refine Body.skip ?_
      refine Then.next ?_
      refine Body.block ?_
      refine Body.seq ?_
      refine Body.region ?_
      refine Ops.u (Dtu.mv (lk rfl)) rfl ?_
      refine Ops.u (Dtu.mv (lk rfl)) rfl ?_
      refine Ops.s (Stp.call rfl Try.call66 (lks rfl) (fun E' le hat => rget_ok E' _ _ _ (Sl.mono (by assumption) le) (by assumption)) ?_) rfl
      rintro _ _ ⟨rfl, rfl⟩
      refine Ops.u (Dtu.mv (lk rfl)) rfl ?_
      refine Ops.u (Dtu.ext (lk rfl) rfl) rfl ?_
      refine Ops.u (Dtu.ext (lk rfl) rfl) rfl ?_
      refine Ops.u (Dtu.ext (lk rfl) rfl) rfl ?_
      refine Ops.u (Dtu.asg (lk rfl)) rfl ?_
      refine Ops.u (Dtu.asg (lk rfl)) rfl ?_
      refine Ops.u (Dtu.asg (lk rfl)) rfl ?_
      refine Ops.nil ?_
      refine Then.next ?_
      refine Body.seq ?_
      refine Body.seq ?_
      refine Body.region ?_
      refine Ops.u (Dtu.mv (lk rfl)) rfl ?_
      refine Ops.u (Dtu.neq (lk rfl) (lk rfl)) rfl ?_
      refine Ops.nil ?_
      refine Then.next ?_
      refine Body.condP (lk rfl) (fun c30 => ?_) (fun c30 => ?_)
      · rw [if_pos (by assumption)] at hr
        obtain ⟨k1, k2⟩ := hnone hr.symm
        rw [k1, k2]
        refine Body.seq ?_
        refine Body.region ?_
        refine Ops.u (Dtu.asg (lk rfl)) rfl ?_
        refine Ops.u (Dtu.asg (lk rfl)) rfl ?_
        refine Ops.nil ?_
        refine Then.next ?_
        refine Body.ret ?_
        refine Then.ret ?_
        refine Blk.ret ?_
        refine Round.ret ?_
        refine Blk.ret ?_
        refine Then.ret ?_
        exact ⟨.inr rfl, _, pk [] rfl, rfl, rfl⟩
      · rw [if_neg (by assumption)] at hr
        refine Body.skip ?_
        refine Then.next ?_
        refine Body.seq ?_
        refine Body.region ?_
        refine Ops.u (Dtu.mv (lk rfl)) rfl ?_
        refine Ops.u (Dtu.mv (lk rfl)) rfl ?_
        refine Ops.s (Stp.call rfl Try.call66 (lks rfl) (fun E' le hat => rget_ok E' _ _ _ (Sl.mono (by assumption) le) (by assumption)) ?_) rfl
        rintro _ _ ⟨rfl, rfl⟩
        refine Ops.u (Dtu.mv (lk rfl)) rfl ?_
        refine Ops.u (Dtu.ext (lk rfl) rfl) rfl ?_
        refine Ops.u (Dtu.ext (lk rfl) rfl) rfl ?_
        refine Ops.u (Dtu.ext (lk rfl) rfl) rfl ?_
        refine Ops.u (Dtu.asg (lk rfl)) rfl ?_
        refine Ops.u (Dtu.asg (lk rfl)) rfl ?_
        refine Ops.u (Dtu.asg (lk rfl)) rfl ?_
        refine Ops.nil ?_
        refine Then.next ?_
        refine Body.seq ?_
        refine Body.seq ?_
        refine Body.region ?_
        refine Ops.u (Dtu.mv (lk rfl)) rfl ?_
        refine Ops.u (Dtu.neq (lk rfl) (lk rfl)) rfl ?_
        refine Ops.u (Dtu.mv (lk rfl)) rfl ?_
        refine Ops.decP 40 rfl (fun c40 => ?_) (fun c40 => ?_)
        · rw [if_pos (.inl (by assumption))] at hr
          obtain ⟨k1, k2⟩ := hnone hr.symm
          rw [k1, k2]
          refine Ops.gn rfl rfl rfl rfl rfl ?_
          refine Ops.gn rfl rfl rfl rfl rfl ?_
          refine Ops.u (Dtu.pickT (lk rfl) (lk rfl)) rfl ?_
          refine Ops.nil ?_
          refine Then.next ?_
          refine Body.condT (lk rfl) ?_
          refine Body.seq ?_
          refine Body.region ?_
          refine Ops.u (Dtu.asg (lk rfl)) rfl ?_
          refine Ops.u (Dtu.asg (lk rfl)) rfl ?_
          refine Ops.nil ?_
          refine Then.next ?_
          refine Body.ret ?_
          refine Then.ret ?_
          refine Blk.ret ?_
          refine Round.ret ?_
          refine Blk.ret ?_
          refine Then.ret ?_
          exact ⟨.inr rfl, _, pk [] rfl, rfl, rfl⟩
        · refine Ops.gu rfl rfl rfl (Dtu.mv (lk rfl)) rfl ?_
          refine Ops.gu rfl rfl rfl (Dtu.eql (lk rfl) (lk rfl)) rfl ?_
          refine Ops.u (Dtu.pickF (lk rfl) (lk rfl)) rfl ?_
          refine Ops.nil ?_
          refine Then.next ?_
          refine Body.condP (lk rfl) (fun c43 => ?_) (fun c43 => ?_)
          · rw [if_pos (.inr (by assumption))] at hr
            obtain ⟨k1, k2⟩ := hnone hr.symm
            rw [k1, k2]
            refine Body.seq ?_
            refine Body.region ?_
            refine Ops.u (Dtu.asg (lk rfl)) rfl ?_
            refine Ops.u (Dtu.asg (lk rfl)) rfl ?_
            refine Ops.nil ?_
            refine Then.next ?_
            refine Body.ret ?_
            refine Then.ret ?_
            refine Blk.ret ?_
            refine Round.ret ?_
            refine Blk.ret ?_
            refine Then.ret ?_
            exact ⟨.inr rfl, _, pk [] rfl, rfl, rfl⟩
          · rw [if_neg (by omega)] at hr
            have e1 := g2 (by omega)
            have e2 := g4 (by omega)
            obtain ⟨q, hq⟩ := Int.eq_ofNat_of_zero_le g3.1
            rw [hq, Int.toNat_natCast] at hr
            generalize hp0 : (getS bs (getS bs a).2.1).2.1 = p0 at *
            refine Body.skip ?_
            refine Then.next ?_
            refine Body.seq ?_
            refine Body.seq ?_
            refine Body.region ?_
            refine Ops.u (Dtu.asg (lk rfl)) rfl ?_
            refine Ops.nil ?_
            refine Then.next ?_
            refine Body.block ?_
            refine Body.loopF (γ := List Cell × Int) rfl (fun g => [(11, .int .u64 g.1.length), (10, .int .i64 g.2)]) (fun g => [])
              (fun g => readN bs (q - g.1.length) g.1 g.2 = readN bs q [] p0 ∧ g.1.length ≤ q ∧ p0 + g.1.length ≤ g.2 ∧ g.2 ≤ bs.length) (fun g => q - g.1.length) ([], p0) ⟨by simp, by simp, by simp, by dsimp only; omega⟩ ⟨rfl, rfl, trivial⟩ rfl ?_
            rintro ⟨cs, p⟩ u2 ⟨hN, hj, hp1, hp2⟩
            dsimp only at hN hj hp1 hp2 ⊢
            have hcf := cellR_fl bs hb p
            have hcn := cellR_next bs p
            refine Body.seq ?_
            refine Body.seq ?_
            refine Body.region ?_
            refine Ops.u (Dtu.mv (lk rfl)) rfl ?_
            refine Ops.u (Dtu.mv (lk rfl)) rfl ?_
            refine Ops.u (Dtu.lss (lk rfl) (lk rfl)) rfl ?_
            refine Ops.nil ?_
            refine Then.next ?_
            refine Body.condP (lk rfl) (fun c46 => ?_) (fun c46 => ?_)
            · obtain ⟨d, hd⟩ : ∃ d, q - cs.length = d + 1 := ⟨q - cs.length - 1, by omega⟩
              rw [hd, readN] at hN
              refine Body.skip ?_
              refine Then.next ?_
              refine Body.seq ?_
              refine Body.block ?_
              refine Body.seq ?_
              refine Body.region ?_
              refine Ops.u (Dtu.mv (lk rfl)) rfl ?_
              refine Ops.u (Dtu.mv (lk rfl)) rfl ?_
              refine Ops.s (Stp.call rfl Try.call35 (lks rfl) (fun E' le hat => rgetCell_ok E' _ _ _ (Sl.mono (by assumption) le) (by assumption)) ?_) rfl
              rintro _ _ ⟨rfl, rfl⟩
              refine Ops.u (Dtu.mv (lk rfl)) rfl ?_
              refine Ops.u (Dtu.ext (lk rfl) rfl) rfl ?_
              refine Ops.u (Dtu.ext (lk rfl) rfl) rfl ?_
              refine Ops.u (Dtu.ext (lk rfl) rfl) rfl ?_
              refine Ops.s (Stp.alloc ty65 (fun b12 => ?_)) rfl
              refine Ops.e (Stp.store 0 Try.sizeOf65 (lk rfl) (lk rfl) rfl rfl rfl rfl rfl rfl rfl ?_)
              refine Ops.u (Dtu.asg (lk rfl)) rfl ?_
              refine Ops.u (Dtu.asg (lk rfl)) rfl ?_
              refine Ops.nil ?_
              refine Then.next ?_
              refine Body.seq ?_
              refine Body.seq ?_
              refine Body.region ?_
              refine Ops.u (Dtu.mv (lk rfl)) rfl ?_
              refine Ops.u (Dtu.neq (lk rfl) (lk rfl)) rfl ?_
              refine Ops.nil ?_
              refine Then.next ?_
              refine Body.condP (lk rfl) (fun c57 => ?_) (fun c57 => ?_)
              · rw [if_pos (by assumption)] at hN
                rw [← hN] at hr
                obtain ⟨k1, k2⟩ := hnone hr.symm
                rw [k1, k2]
                refine Body.seq ?_
                refine Body.region ?_
                refine Ops.u (Dtu.asg (lk rfl)) rfl ?_
                refine Ops.u (Dtu.asg (lk rfl)) rfl ?_
                refine Ops.nil ?_
                refine Then.next ?_
                refine Body.ret ?_
                refine Then.ret ?_
                refine Blk.ret ?_
                refine Then.ret ?_
                refine Round.ret ?_
                refine Blk.ret ?_
                refine Then.ret ?_
                refine Blk.ret ?_
                refine Round.ret ?_
                refine Blk.ret ?_
                refine Then.ret ?_
                exact ⟨.inr rfl, _, pk [] rfl, rfl, rfl⟩
              · rw [if_neg (by assumption)] at hN
                have e3 := hcn (by omega)
                refine Body.skip ?_
                refine Then.next ?_
                refine Body.region ?_
                refine Ops.u (Dtu.mv (lk rfl)) rfl ?_
                refine Ops.u (Dtu.asg (lk rfl)) rfl ?_
                refine Ops.nil ?_
                refine Blk.norm ?_
                refine Then.next ?_
                refine Body.region ?_
                refine Ops.u (Dtu.mv (lk rfl)) rfl ?_
                refine Ops.u (Dtu.add (lk rfl) (lk rfl) (wu64 (by omega) (by omega))) rfl ?_
                refine Ops.u (Dtu.asg (lk rfl)) rfl ?_
                refine Ops.nil ?_
                refine Round.goK [] (cs ++ [(cellR bs p).1], (cellR bs p).2.1) rfl rfl rfl ⟨int_eq (by simp), rfl, trivial⟩ rfl rfl ⟨?_, by simp; omega, by simp; omega, by dsimp only; omega⟩ (by simp; omega)
                dsimp only
                rw [← hN]; congr 1; simp; omega
            · have hjq : cs.length = q := by omega
              rw [show q - cs.length = 0 by omega, readN] at hN
              rw [← hN] at hr
              dsimp only at hr
              refine Body.exit ?_
              refine Then.exit ?_
              refine Round.exit ?_
              refine Blk.here ?_
              refine Then.next ?_
              refine Body.seq ?_
              refine Body.region ?_
              refine Ops.u (Dtu.mv (lk rfl)) rfl ?_
              refine Ops.u (Dtu.asg (lk rfl)) rfl ?_
              refine Ops.nil ?_
              refine Then.next ?_
              refine Body.region ?_
              refine Ops.u (Dtu.mv (lk rfl)) rfl ?_
              refine Ops.u (Dtu.add (lk rfl) (lk rfl) (w64 (by omega) (by omega))) rfl ?_
              refine Ops.u (Dtu.asg (lk rfl)) rfl ?_
              refine Ops.nil ?_
              refine Blk.norm ?_
              refine Round.goK [] (k, L ++ [(min (getS bs a).1 24000, cs)], p) rfl rfl rfl ⟨rfl, int_eq (by simp), trivial⟩ rfl rfl ⟨hr, by dsimp only; omega, by dsimp only; omega, by dsimp only; omega, by simp; omega⟩ (by simp)
    · rw [if_neg (by omega)] at hr
      obtain ⟨k1, k2⟩ := hsome _ hr.symm
      rw [k1, k2]
      refine Body.exit ?_
      refine Then.exit ?_
      refine Round.exit ?_
      refine Blk.here ?_
      refine Then.next ?_
      refine Body.seq ?_
      refine Body.region ?_
      refine Ops.u (Dtu.mv (lk rfl)) rfl ?_
      refine Ops.u (Dtu.asg (lk rfl)) rfl ?_
      refine Ops.u (Dtu.asg (lk rfl)) rfl ?_
      refine Ops.nil ?_
      refine Then.next ?_
      refine Body.ret ?_
      exact ⟨.inr rfl, _, pk [] rfl, rfl, rfl⟩
end Go.Proofs.Ytijjjdljdjnbaaa
end
section
/- The document's patches: what is read, in other words. -/
namespace Go.Proofs.Ytijjjdljdjnbaaa
set_option maxRecDepth 100000
set_option linter.unusedVariables false
set_option linter.unusedSimpArgs false
open Go.Sx

theorem readRs_acc (bs : List Int) : ∀ (k : Nat) (rs : List Run) (a : Int), readRs bs k rs a = (readRs bs k [] a).map (rs ++ ·)
  | 0, rs, a => rfl
  | k + 1, rs, a => by
    simp only [readRs]
    split
    · split
      · rfl
      · split
        · rfl
        · split
          · rfl
          · rename_i cs a' _
            rw [readRs_acc bs k (rs ++ _) a', readRs_acc bs k ([] ++ _) a']
            cases readRs bs k [] a' <;> simp
    · simp
theorem readN_len (bs : List Int) : ∀ (k : Nat) (cs : List Cell) (a : Int) {x : List Cell × Int}, readN bs k cs a = some x → x.1.length = cs.length + k
  | 0, cs, a, x, h => by simp only [readN, Option.some.injEq] at h; subst h; rfl
  | k + 1, cs, a, x, h => by
    simp only [readN] at h
    split at h
    · cases h
    · have := readN_len bs k _ _ h
      simp at this; omega
/-- a run more -/
theorem readRs_step {bs : List Int} {k : Nat} {a : Int} {R : List Run} (h : readRs bs (k + 1) [] a = some R) (ha : a < bs.length) :
    (getS bs a).2.2 = 0 ∧ (getS bs (getS bs a).2.1).2.2 = 0 ∧ ∃ cs a' R', readN bs (getS bs (getS bs a).2.1).1.toNat [] (getS bs (getS bs a).2.1).2.1 = some (cs, a') ∧ readRs bs k [] a' = some R' ∧ R = (min (getS bs a).1 24000, cs) :: R' := by
  rw [readRs, if_pos ha] at h
  split at h
  · cases h
  · rename_i h1
    split at h
    · cases h
    · rename_i h2
      split at h
      · cases h
      · rename_i cs a' hN
        rw [readRs_acc] at h
        refine ⟨by omega, by omega, cs, a', ?_⟩
        cases hR : readRs bs k [] a' with
        | none => rw [hR] at h; cases h
        | some R' =>
          rw [hR] at h
          simp at h
          exact ⟨R', hN, rfl, h.symm⟩
theorem readRs_end {bs : List Int} {k : Nat} {a : Int} {R : List Run} (h : readRs bs (k + 1) [] a = some R) (ha : ¬ a < bs.length) : R = [] := by
  rw [readRs, if_neg ha] at h
  simpa using h.symm
theorem lay_step {X C cs : List Cell} {k : Nat} (h : X.length + k + cs.length ≤ C.length) : lay (X ++ C.drop X.length) (X.length + k) cs = X ++ (C.drop X.length).take k ++ cs ++ C.drop (X ++ (C.drop X.length).take k ++ cs).length := by
  unfold lay
  have hl : (X ++ (C.drop X.length).take k ++ cs).length = X.length + k + cs.length := by simp; omega
  rw [hl, List.take_append, List.drop_append, List.take_of_length_le (by omega : X.length ≤ X.length + k), List.drop_eq_nil_of_le (by omega : X.length ≤ X.length + k + cs.length)]
  rw [show X.length + k - X.length = k by omega, show X.length + k + cs.length - X.length = k + cs.length by omega, List.drop_drop, show X.length + (k + cs.length) = X.length + k + cs.length by omega]
  simp
def RunCols (r : Run) : Prop := ∀ c ∈ r.2, c.Cols
theorem readN_cols (bs : List Int) (hb : Byt bs) : ∀ (k : Nat) (cs : List Cell) (a : Int) {x : List Cell × Int}, readN bs k cs a = some x → (∀ c ∈ cs, c.Cols) → ∀ c ∈ x.1, c.Cols
  | 0, cs, a, x, h, hc => by
    simp only [readN, Option.some.injEq] at h; subst h; exact hc
  | k + 1, cs, a, x, h, hc => by
    simp only [readN] at h
    split at h
    · cases h
    · refine readN_cols bs hb k _ _ h fun c hm => ?_
      rcases List.mem_append.1 hm with hm | hm
      · exact hc c hm
      · rw [List.mem_singleton.1 hm]; exact cellR_cols bs hb a
theorem readRs_cols (bs : List Int) (hb : Byt bs) : ∀ (k : Nat) (rs : List Run) (a : Int) {x : List Run}, readRs bs k rs a = some x → (∀ r ∈ rs, RunCols r) → ∀ r ∈ x, RunCols r
  | 0, rs, a, x, h, hc => by cases h
  | k + 1, rs, a, x, h, hc => by
    simp only [readRs] at h
    split at h
    · split at h
      · cases h
      · split at h
        · cases h
        · split at h
          · cases h
          · rename_i cs a' hN
            refine readRs_cols bs hb k _ _ h fun r hm => ?_
            rcases List.mem_append.1 hm with hm | hm
            · exact hc r hm
            · rw [List.mem_singleton.1 hm]
              exact readN_cols bs hb _ _ _ hN (by simp)
    · simp only [Option.some.injEq] at h; subst h; exact hc
theorem runsP_cols {bs : List Int} (hb : Byt bs) {rs : List Run} (h : runsP bs = some rs) : ∀ r ∈ rs, RunCols r := by
  unfold runsP at h
  split at h
  · cases h
  · exact readRs_cols bs hb _ _ _ h (by simp)
theorem applyL_cols : ∀ (rs : List Run) (B : List Cell) (a : Nat), (∀ c ∈ B, c.Cols) → (∀ r ∈ rs, RunCols r) → ∀ c ∈ applyL B a rs, c.Cols
  | [], B, a, h, _ => h
  | (k, l) :: t, B, a, h, hr => by
    simp only [applyL]
    split
    · simp
    · refine applyL_cols t _ _ (fun c hc => ?_) fun r hm => hr r (by simp [hm])
      simp only [lay, List.mem_append] at hc
      rcases hc with (hc | hc) | hc
      · exact h c (List.mem_of_mem_take hc)
      · exact hr (k, l) (by simp) c hc
      · exact h c (List.mem_of_mem_drop hc)
theorem baseC_cols {a : View} (h : ∀ c ∈ a.cells, c.Cols) (r k : Int) : ∀ c ∈ baseC a r k, c.Cols := by
  unfold baseC
  split
  · exact h
  · intro c hc
    rw [(List.mem_replicate.1 hc).2]; exact ⟨by decide, by decide, by decide, by decide⟩
theorem applyV_bad {a : View} {bs : List Int} {rs : List Run} (hr : runsP bs = some rs) (h : (applyW a bs rs).ok = false) : applyV a bs = none := by
  unfold applyV
  rw [hr]
  dsimp only
  split
  · rfl
  · rw [if_neg (fun h2 => by rw [h] at h2; exact absurd h2.1 (by simp))]
theorem applyW_nil {a : View} {bs : List Int} {rs : List Run} (h : applyL (baseC a bs[0]! bs[1]!) 0 rs = []) : (applyW a bs rs).ok = false := by
  refine View.ok_no fun hf => ?_
  have m : 1 ≤ bs[0]! * bs[1]! := (mul_bound hf.1).1
  have e : ((applyL (baseC a bs[0]! bs[1]!) 0 rs).length : Int) = bs[0]! * bs[1]! := hf.2.2.2.2.2
  rw [h, List.length_nil] at e
  omega
theorem applyW_small {a : View} {bs : List Int} {rs : List Run} (h : bs[0]! < 1 ∨ 12 < bs[0]! ∨ bs[1]! < 1 ∨ 40 < bs[1]!) : (applyW a bs rs).ok = false := by
  refine View.ok_no fun hf => ?_
  have := hf.1
  simp only [applyW] at this
  omega
end Go.Proofs.Ytijjjdljdjnbaaa
end
section
/- The document's patches: Apply. -/
namespace Go.Proofs.Ytijjjdljdjnbaaa
set_option maxRecDepth 100000
set_option linter.unusedVariables false
set_option linter.unusedSimpArgs false
open Go.Sx

set_option maxHeartbeats 6400000 in
theorem rapply_ok (E : Env) (a : View) (s b : Value) (bs : List Int) (ha : a.rhas E [] s) (h : Sl E [] 1 b bs.length (bs.map (.int .u8))) (hb : Byt bs) (hmax : bs.length ≤ 100000) (hfl : ∀ c ∈ a.cells, c.Fl) (hcs : ∀ c ∈ a.cells, c.Cols) : Does Try.prog 21 #[a.val s, b] E [] fun r H' =>
    match applyV a bs with
    | some v => ∃ s, r = .tuple #[v.val s, .bool true] ∧ H' = [osl 65 11 s v.cells.length (v.cells.flatMap Cell.renc)]
    | none => r = .tuple #[View.none.val (.slice none 0 0), .bool false] ∧ H' = [] := by
  unfold View.rhas at ha
  refine Does.pure ha.isSl fun hs => ?_
  obtain ⟨sa, sm, sc, rfl⟩ := hs
  have hV : applyV a bs = match runsP bs with
      | none => none
      | some rs => if a.ok = false ∨ 12 < bs[0]! ∨ 40 < bs[1]! then none else if (applyW a bs rs).ok = true ∧ difB a (applyW a bs rs) = bs then some (applyW a bs rs) else none := rfl
  have hR := fun (E' : Env) (le : Env.Le E E') => rruns_ok E' b bs (Sl.mono h le) hb hmax
  refine Does.go (args := [a.val (.slice sa sm sc), b]) _ _ Try.func21 rfl Try.ntmps21 rfl rfl ?_
  cases hr : runsP bs with
  | none =>
    have e1 : runsK bs = 0 := by simp [runsK, hr]
    have e2 : runsO bs = false := by simp [runsO, hr]
    rw [hr] at hV
    rw [e1, e2] at hR
    rw [hV]
    refine Body.seq ?_
    refine Body.region ?_
    refine Ops.s (Stp.box (lk rfl) rfl (fun b2 => ?_)) rfl
    refine Ops.s (Stp.alloc ty30 (fun b4 => ?_)) rfl
    refine Ops.u (Dtu.asg (lk rfl)) rfl ?_
    refine Ops.nil ?_
    refine Then.next ?_
    refine Body.seq ?_
    refine Body.region ?_
    refine Ops.u (Dtu.mv (lk rfl)) rfl ?_
    refine Ops.s (Stp.call rfl Try.call23 (lks rfl) (fun E' le hat => rruns_ok E' _ _ (Sl.mono (by assumption) le) (by assumption) (by first | assumption | omega)) ?_) rfl
    rintro _ _ ⟨rfl, rfl⟩
    refine Ops.u (Dtu.mv (lk rfl)) rfl ?_
    refine Ops.u (Dtu.ext (lk rfl) rfl) rfl ?_
    refine Ops.u (Dtu.ext (lk rfl) rfl) rfl ?_
    refine Ops.u (Dtu.asg (lk rfl)) rfl ?_
    refine Ops.u (Dtu.asg (lk rfl)) rfl ?_
    refine Ops.nil ?_
    refine Then.next ?_
    refine Body.seq ?_
    refine Body.seq ?_
    refine Body.region ?_
    refine Ops.u (Dtu.mv (lk rfl)) rfl ?_
    refine Ops.u (Dtu.not (lk rfl)) rfl ?_
    refine Ops.u (Dtu.mv (lk rfl)) rfl ?_
    refine Ops.dec 28 rfl (fun _ => ?_) (fun hn => absurd hn (by simp [e2]))
    refine Ops.gn rfl rfl rfl rfl rfl ?_
    refine Ops.gn rfl rfl rfl rfl rfl ?_
    refine Ops.gn rfl rfl rfl rfl rfl ?_
    refine Ops.u (Dtu.pickT (lk rfl) (lk rfl)) rfl ?_
    refine Ops.u (Dtu.mv (lk rfl)) rfl ?_
    refine Ops.gn rfl rfl rfl rfl rfl ?_
    refine Ops.gn rfl rfl rfl rfl rfl ?_
    refine Ops.gn rfl rfl rfl rfl rfl ?_
    refine Ops.gn rfl rfl rfl rfl rfl ?_
    refine Ops.u (Dtu.pickT (lk rfl) (lk rfl)) rfl ?_
    refine Ops.u (Dtu.mv (lk rfl)) rfl ?_
    refine Ops.gn rfl rfl rfl rfl rfl ?_
    refine Ops.gn rfl rfl rfl rfl rfl ?_
    refine Ops.gn rfl rfl rfl rfl rfl ?_
    refine Ops.gn rfl rfl rfl rfl rfl ?_
    refine Ops.u (Dtu.pickT (lk rfl) (lk rfl)) rfl ?_
    refine Ops.u (Dtu.mv (lk rfl)) rfl ?_
    refine Ops.gn rfl rfl rfl rfl rfl ?_
    refine Ops.gn rfl rfl rfl rfl rfl ?_
    refine Ops.gn rfl rfl rfl rfl rfl ?_
    refine Ops.gn rfl rfl rfl rfl rfl ?_
    refine Ops.u (Dtu.pickT (lk rfl) (lk rfl)) rfl ?_
    refine Ops.u (Dtu.mv (lk rfl)) rfl ?_
    refine Ops.gn rfl rfl rfl rfl rfl ?_
    refine Ops.gn rfl rfl rfl rfl rfl ?_
    refine Ops.gn rfl rfl rfl rfl rfl ?_
    refine Ops.gn rfl rfl rfl rfl rfl ?_
    refine Ops.u (Dtu.pickT (lk rfl) (lk rfl)) rfl ?_
    refine Ops.nil ?_
    refine Then.next ?_
    refine Body.condT (lk rfl) ?_
    refine Body.seq ?_
    refine Body.region ?_
    refine Ops.u (Dtu.build ty30 pl30 (lkp rfl) rfl rfl) rfl ?_
    refine Ops.e (Stp.store 0 Try.sizeOf30 (lk rfl) (lk rfl) rfl rfl rfl rfl rfl rfl rfl ?_)
    refine Ops.u (Dtu.asg (lk rfl)) rfl ?_
    refine Ops.nil ?_
    refine Then.next ?_
    refine Body.ret ?_
    refine Then.ret ?_
    exact ⟨.inr rfl, _, Loads.agg Try.isAgg30 Try.sizeOf30 (Rds.ow (m := 6) 0 rfl rfl) rfl, _, pk [] rfl, rfl, rfl⟩
  | some rs =>
    have h5 := runsP_len hr
    have hfine := runsP_fine hb hr
    have hcols := runsP_cols hb hr
    have e2 : runsO bs = true := by simp [runsO, hr]
    have hr0 : readRs bs (bs.length + 1) [] 5 = some rs := by rw [← hr]; unfold runsP; rw [if_neg (by omega)]
    have hbad := fun hx => applyV_bad (a := a) hr hx
    rw [hr] at hV
    dsimp only at hV
    have d0 := hb 0 (by omega)
    have d1 := hb 1 (by omega)
    have d2 := hb 2 (by omega)
    have d3 := hb 3 (by omega)
    have d4 := hb 4 (by omega)
    cases hk : a.ok with
    | false =>
      rw [hV, if_pos (.inl hk)]
      refine Body.seq ?_
      refine Body.region ?_
      refine Ops.s (Stp.box (lk rfl) rfl (fun b2 => ?_)) rfl
      refine Ops.s (Stp.alloc ty30 (fun b4 => ?_)) rfl
      refine Ops.u (Dtu.asg (lk rfl)) rfl ?_
      refine Ops.nil ?_
      refine Then.next ?_
      refine Body.seq ?_
      refine Body.region ?_
      refine Ops.u (Dtu.mv (lk rfl)) rfl ?_
      refine Ops.s (Stp.call rfl Try.call23 (lks rfl) (fun E' le hat => rruns_ok E' _ _ (Sl.mono (by assumption) le) (by assumption) (by first | assumption | omega)) ?_) rfl
      rintro _ _ ⟨rfl, rfl⟩
      refine Ops.u (Dtu.mv (lk rfl)) rfl ?_
      refine Ops.u (Dtu.ext (lk rfl) rfl) rfl ?_
      refine Ops.u (Dtu.ext (lk rfl) rfl) rfl ?_
      refine Ops.u (Dtu.asg (lk rfl)) rfl ?_
      refine Ops.u (Dtu.asg (lk rfl)) rfl ?_
      refine Ops.nil ?_
      refine Then.next ?_
      refine Body.seq ?_
      refine Body.seq ?_
      refine Body.region ?_
      refine Ops.u (Dtu.mv (lk rfl)) rfl ?_
      refine Ops.u (Dtu.not (lk rfl)) rfl ?_
      refine Ops.u (Dtu.mv (lk rfl)) rfl ?_
      refine Ops.dec 28 rfl (fun hn => absurd hn (by simp [e2])) (fun _ => ?_)
      refine Ops.gd rfl rfl rfl (Det.lda Try.isAgg30 Try.sizeOf30 (lk rfl) (Rds.ow (m := 6) 1 rfl rfl) rfl) rfl ?_
      refine Ops.gs rfl rfl rfl (Stp.call rfl Try.call18 (lks rfl) (fun E' le hat => rright_ok E' ⟨_, _, _, _, _, _⟩ _ (Sl.mono (by assumption) le) (by assumption)) ?_) rfl
      rintro _ _ ⟨rfl, rfl⟩
      refine Ops.gu rfl rfl rfl (Dtu.not (lk rfl)) rfl ?_
      refine Ops.u (Dtu.pickF (lk rfl) (lk rfl)) rfl ?_
      refine Ops.u (Dtu.mv (lk rfl)) rfl ?_
      refine Ops.dec 33 rfl (fun _ => ?_) (fun hn => absurd hn (by simp [hk]))
      refine Ops.gn rfl rfl rfl rfl rfl ?_
      refine Ops.gn rfl rfl rfl rfl rfl ?_
      refine Ops.gn rfl rfl rfl rfl rfl ?_
      refine Ops.gn rfl rfl rfl rfl rfl ?_
      refine Ops.u (Dtu.pickT (lk rfl) (lk rfl)) rfl ?_
      refine Ops.u (Dtu.mv (lk rfl)) rfl ?_
      refine Ops.gn rfl rfl rfl rfl rfl ?_
      refine Ops.gn rfl rfl rfl rfl rfl ?_
      refine Ops.gn rfl rfl rfl rfl rfl ?_
      refine Ops.gn rfl rfl rfl rfl rfl ?_
      refine Ops.u (Dtu.pickT (lk rfl) (lk rfl)) rfl ?_
      refine Ops.u (Dtu.mv (lk rfl)) rfl ?_
      refine Ops.gn rfl rfl rfl rfl rfl ?_
      refine Ops.gn rfl rfl rfl rfl rfl ?_
      refine Ops.gn rfl rfl rfl rfl rfl ?_
      refine Ops.gn rfl rfl rfl rfl rfl ?_
      refine Ops.u (Dtu.pickT (lk rfl) (lk rfl)) rfl ?_
      refine Ops.u (Dtu.mv (lk rfl)) rfl ?_
      refine Ops.gn rfl rfl rfl rfl rfl ?_
      refine Ops.gn rfl rfl rfl rfl rfl ?_
      refine Ops.gn rfl rfl rfl rfl rfl ?_
      refine Ops.gn rfl rfl rfl rfl rfl ?_
      refine Ops.u (Dtu.pickT (lk rfl) (lk rfl)) rfl ?_
      refine Ops.nil ?_
      refine Then.next ?_
      refine Body.condT (lk rfl) ?_
      refine Body.seq ?_
      refine Body.region ?_
      refine Ops.u (Dtu.build ty30 pl30 (lkp rfl) rfl rfl) rfl ?_
      refine Ops.e (Stp.store 0 Try.sizeOf30 (lk rfl) (lk rfl) rfl rfl rfl rfl rfl rfl rfl ?_)
      refine Ops.u (Dtu.asg (lk rfl)) rfl ?_
      refine Ops.nil ?_
      refine Then.next ?_
      refine Body.ret ?_
      refine Then.ret ?_
      exact ⟨.inr rfl, _, Loads.agg Try.isAgg30 Try.sizeOf30 (Rds.ow (m := 6) 0 rfl rfl) rfl, _, pk [] rfl, rfl, rfl⟩
    | true =>
      obtain ⟨fa, oa⟩ := View.ok_fits hk
      have hma := mul_bound fa.1
      have hla : a.cells.length ≤ 480 := by have := fa.2.2.2.2.2; omega
      by_cases hsm : bs[0]! < 1 ∨ 12 < bs[0]! ∨ bs[1]! < 1 ∨ 40 < bs[1]!
      · rw [hbad (applyW_small hsm)]
        refine Body.seq ?_
        refine Body.region ?_
        refine Ops.s (Stp.box (lk rfl) rfl (fun b2 => ?_)) rfl
        refine Ops.s (Stp.alloc ty30 (fun b4 => ?_)) rfl
        refine Ops.u (Dtu.asg (lk rfl)) rfl ?_
        refine Ops.nil ?_
        refine Then.next ?_
        refine Body.seq ?_
        refine Body.region ?_
        refine Ops.u (Dtu.mv (lk rfl)) rfl ?_
        refine Ops.s (Stp.call rfl Try.call23 (lks rfl) (fun E' le hat => rruns_ok E' _ _ (Sl.mono (by assumption) le) (by assumption) (by first | assumption | omega)) ?_) rfl
        rintro _ _ ⟨rfl, rfl⟩
        refine Ops.u (Dtu.mv (lk rfl)) rfl ?_
        refine Ops.u (Dtu.ext (lk rfl) rfl) rfl ?_
        refine Ops.u (Dtu.ext (lk rfl) rfl) rfl ?_
        refine Ops.u (Dtu.asg (lk rfl)) rfl ?_
        refine Ops.u (Dtu.asg (lk rfl)) rfl ?_
        refine Ops.nil ?_
        refine Then.next ?_
        refine Body.seq ?_
        refine Body.seq ?_
        refine Body.region ?_
        refine Ops.u (Dtu.mv (lk rfl)) rfl ?_
        refine Ops.u (Dtu.not (lk rfl)) rfl ?_
        refine Ops.u (Dtu.mv (lk rfl)) rfl ?_
        refine Ops.dec 28 rfl (fun hn => absurd hn (by simp [e2])) (fun _ => ?_)
        refine Ops.gd rfl rfl rfl (Det.lda Try.isAgg30 Try.sizeOf30 (lk rfl) (Rds.ow (m := 6) 1 rfl rfl) rfl) rfl ?_
        refine Ops.gs rfl rfl rfl (Stp.call rfl Try.call18 (lks rfl) (fun E' le hat => rright_ok E' ⟨_, _, _, _, _, _⟩ _ (Sl.mono (by assumption) le) (by assumption)) ?_) rfl
        rintro _ _ ⟨rfl, rfl⟩
        refine Ops.gu rfl rfl rfl (Dtu.not (lk rfl)) rfl ?_
        refine Ops.u (Dtu.pickF (lk rfl) (lk rfl)) rfl ?_
        refine Ops.u (Dtu.mv (lk rfl)) rfl ?_
        refine Ops.dec 33 rfl (fun hn => absurd hn (by simp [hk])) (fun _ => ?_)
        refine Ops.gu rfl rfl rfl (Dtu.mv (lk rfl)) rfl ?_
        refine Ops.gu rfl rfl rfl (Dtu.ix (i := 0) Try.underlying32 Try.sizeOf5 (Sl.up h) (lk rfl) (lk rfl) (by omega) (by omega)) rfl ?_
        refine Ops.gd rfl rfl rfl (Det.ld Try.isAgg5 (lk rfl) (Rd.sl (Sl.up h) (gm (by omega)))) rfl ?_
        refine Ops.gu rfl rfl rfl (Dtu.lss (lk rfl) (lk rfl)) rfl ?_
        refine Ops.u (Dtu.pickF (lk rfl) (lk rfl)) rfl ?_
        refine Ops.u (Dtu.mv (lk rfl)) rfl ?_
        refine Ops.decP 39 rfl (fun c39 => ?_) (fun c39 => ?_)
        · refine Ops.gn rfl rfl rfl rfl rfl ?_
          refine Ops.gn rfl rfl rfl rfl rfl ?_
          refine Ops.gn rfl rfl rfl rfl rfl ?_
          refine Ops.gn rfl rfl rfl rfl rfl ?_
          refine Ops.u (Dtu.pickT (lk rfl) (lk rfl)) rfl ?_
          refine Ops.u (Dtu.mv (lk rfl)) rfl ?_
          refine Ops.gn rfl rfl rfl rfl rfl ?_
          refine Ops.gn rfl rfl rfl rfl rfl ?_
          refine Ops.gn rfl rfl rfl rfl rfl ?_
          refine Ops.gn rfl rfl rfl rfl rfl ?_
          refine Ops.u (Dtu.pickT (lk rfl) (lk rfl)) rfl ?_
          refine Ops.u (Dtu.mv (lk rfl)) rfl ?_
          refine Ops.gn rfl rfl rfl rfl rfl ?_
          refine Ops.gn rfl rfl rfl rfl rfl ?_
          refine Ops.gn rfl rfl rfl rfl rfl ?_
          refine Ops.gn rfl rfl rfl rfl rfl ?_
          refine Ops.u (Dtu.pickT (lk rfl) (lk rfl)) rfl ?_
          refine Ops.nil ?_
          refine Then.next ?_
          refine Body.condT (lk rfl) ?_
          refine Body.seq ?_
          refine Body.region ?_
          refine Ops.u (Dtu.build ty30 pl30 (lkp rfl) rfl rfl) rfl ?_
          refine Ops.e (Stp.store 0 Try.sizeOf30 (lk rfl) (lk rfl) rfl rfl rfl rfl rfl rfl rfl ?_)
          refine Ops.u (Dtu.asg (lk rfl)) rfl ?_
          refine Ops.nil ?_
          refine Then.next ?_
          refine Body.ret ?_
          refine Then.ret ?_
          (exact ⟨.inr rfl, _, Loads.agg Try.isAgg30 Try.sizeOf30 (Rds.ow (m := 6) 0 rfl rfl) rfl, _, pk [] rfl, rfl, rfl⟩)
        · refine Ops.gu rfl rfl rfl (Dtu.mv (lk rfl)) rfl ?_
          refine Ops.gu rfl rfl rfl (Dtu.ix (i := 0) Try.underlying32 Try.sizeOf5 (Sl.up h) (lk rfl) (lk rfl) (by omega) (by omega)) rfl ?_
          refine Ops.gd rfl rfl rfl (Det.ld Try.isAgg5 (lk rfl) (Rd.sl (Sl.up h) (gm (by omega)))) rfl ?_
          refine Ops.gu rfl rfl rfl (Dtu.gtr (lk rfl) (lk rfl)) rfl ?_
          refine Ops.u (Dtu.pickF (lk rfl) (lk rfl)) rfl ?_
          refine Ops.u (Dtu.mv (lk rfl)) rfl ?_
          refine Ops.decP 45 rfl (fun c45 => ?_) (fun c45 => ?_)
          · refine Ops.gn rfl rfl rfl rfl rfl ?_
            refine Ops.gn rfl rfl rfl rfl rfl ?_
            refine Ops.gn rfl rfl rfl rfl rfl ?_
            refine Ops.gn rfl rfl rfl rfl rfl ?_
            refine Ops.u (Dtu.pickT (lk rfl) (lk rfl)) rfl ?_
            refine Ops.u (Dtu.mv (lk rfl)) rfl ?_
            refine Ops.gn rfl rfl rfl rfl rfl ?_
            refine Ops.gn rfl rfl rfl rfl rfl ?_
            refine Ops.gn rfl rfl rfl rfl rfl ?_
            refine Ops.gn rfl rfl rfl rfl rfl ?_
            refine Ops.u (Dtu.pickT (lk rfl) (lk rfl)) rfl ?_
            refine Ops.nil ?_
            refine Then.next ?_
            refine Body.condT (lk rfl) ?_
            refine Body.seq ?_
            refine Body.region ?_
            refine Ops.u (Dtu.build ty30 pl30 (lkp rfl) rfl rfl) rfl ?_
            refine Ops.e (Stp.store 0 Try.sizeOf30 (lk rfl) (lk rfl) rfl rfl rfl rfl rfl rfl rfl ?_)
            refine Ops.u (Dtu.asg (lk rfl)) rfl ?_
            refine Ops.nil ?_
            refine Then.next ?_
            refine Body.ret ?_
            refine Then.ret ?_
            (exact ⟨.inr rfl, _, Loads.agg Try.isAgg30 Try.sizeOf30 (Rds.ow (m := 6) 0 rfl rfl) rfl, _, pk [] rfl, rfl, rfl⟩)
          · refine Ops.gu rfl rfl rfl (Dtu.mv (lk rfl)) rfl ?_
            refine Ops.gu rfl rfl rfl (Dtu.ix (i := 1) Try.underlying32 Try.sizeOf5 (Sl.up h) (lk rfl) (lk rfl) (by omega) (by omega)) rfl ?_
            refine Ops.gd rfl rfl rfl (Det.ld Try.isAgg5 (lk rfl) (Rd.sl (Sl.up h) (gm (by omega)))) rfl ?_
            refine Ops.gu rfl rfl rfl (Dtu.lss (lk rfl) (lk rfl)) rfl ?_
            refine Ops.u (Dtu.pickF (lk rfl) (lk rfl)) rfl ?_
            refine Ops.u (Dtu.mv (lk rfl)) rfl ?_
            refine Ops.decP 51 rfl (fun c51 => ?_) (fun c51 => ?_)
            · refine Ops.gn rfl rfl rfl rfl rfl ?_
              refine Ops.gn rfl rfl rfl rfl rfl ?_
              refine Ops.gn rfl rfl rfl rfl rfl ?_
              refine Ops.gn rfl rfl rfl rfl rfl ?_
              refine Ops.u (Dtu.pickT (lk rfl) (lk rfl)) rfl ?_
              refine Ops.nil ?_
              refine Then.next ?_
              refine Body.condT (lk rfl) ?_
              refine Body.seq ?_
              refine Body.region ?_
              refine Ops.u (Dtu.build ty30 pl30 (lkp rfl) rfl rfl) rfl ?_
              refine Ops.e (Stp.store 0 Try.sizeOf30 (lk rfl) (lk rfl) rfl rfl rfl rfl rfl rfl rfl ?_)
              refine Ops.u (Dtu.asg (lk rfl)) rfl ?_
              refine Ops.nil ?_
              refine Then.next ?_
              refine Body.ret ?_
              refine Then.ret ?_
              (exact ⟨.inr rfl, _, Loads.agg Try.isAgg30 Try.sizeOf30 (Rds.ow (m := 6) 0 rfl rfl) rfl, _, pk [] rfl, rfl, rfl⟩)
            · refine Ops.gu rfl rfl rfl (Dtu.mv (lk rfl)) rfl ?_
              refine Ops.gu rfl rfl rfl (Dtu.ix (i := 1) Try.underlying32 Try.sizeOf5 (Sl.up h) (lk rfl) (lk rfl) (by omega) (by omega)) rfl ?_
              refine Ops.gd rfl rfl rfl (Det.ld Try.isAgg5 (lk rfl) (Rd.sl (Sl.up h) (gm (by omega)))) rfl ?_
              refine Ops.gu rfl rfl rfl (Dtu.gtr (lk rfl) (lk rfl)) rfl ?_
              refine Ops.u (Dtu.pickF (lk rfl) (lk rfl)) rfl ?_
              refine Ops.nil ?_
              refine Then.next ?_
              refine Body.condP (lk rfl) (fun _ => ?_) (fun hn => absurd (by first | omega | assumption | decide) hn)
              refine Body.seq ?_
              refine Body.region ?_
              refine Ops.u (Dtu.build ty30 pl30 (lkp rfl) rfl rfl) rfl ?_
              refine Ops.e (Stp.store 0 Try.sizeOf30 (lk rfl) (lk rfl) rfl rfl rfl rfl rfl rfl rfl ?_)
              refine Ops.u (Dtu.asg (lk rfl)) rfl ?_
              refine Ops.nil ?_
              refine Then.next ?_
              refine Body.ret ?_
              refine Then.ret ?_
              (exact ⟨.inr rfl, _, Loads.agg Try.isAgg30 Try.sizeOf30 (Rds.ow (m := 6) 0 rfl rfl) rfl, _, pk [] rfl, rfl, rfl⟩)
      · rw [if_neg (by
          rintro (h | h)
          · rw [hk] at h; cases h
          · omega)] at hV
        have hrc : 1 ≤ bs[0]! ∧ bs[0]! ≤ 12 ∧ 1 ≤ bs[1]! ∧ bs[1]! ≤ 40 := by omega
        have hN := baseC_len (a := a) (r := bs[0]!) (k := bs[1]!) (by omega) hla
        have hBf := baseC_fl hfl bs[0]! bs[1]!
        have hBc := baseC_cols hcs bs[0]! bs[1]!
        have hnil := fun hx => hbad (applyW_nil (a := a) (bs := bs) (rs := rs) hx)
        have hW : applyW a bs rs = ⟨bs[0]!, bs[1]!, applyL (baseC a bs[0]! bs[1]!) 0 rs, bs[2]!, bs[3]!, decide (bs[4]! = 1)⟩ := rfl
        have hZf := applyL_fl rs _ 0 hBf hfine
        have hZc := applyL_cols rs _ 0 hBc hcols
        have hnew := fun (E' : Env) (h : ¬ (a.rows = bs[0]! ∧ a.cols = bs[1]!)) => rbase_new E' a sa sm sc bs[0]! bs[1]! h hrc
        have hsame : a.rows = bs[0]! ∧ a.cols = bs[1]! → baseC a bs[0]! bs[1]! = a.cells := fun h => by unfold baseC; rw [if_pos h]
        by_cases he : a.rows = bs[0]! ∧ a.cols = bs[1]!
        · have ha0 : a.rhas E [] (.slice sa sm sc) := ha
          rw [← hsame he] at ha
          generalize hC : baseC a bs[0]! bs[1]! = C at *
          generalize hFIN : applyL C 0 rs = Z at *
          refine Body.seq ?_
          refine Body.region ?_
          refine Ops.s (Stp.box (lk rfl) rfl (fun b2 => ?_)) rfl
          refine Ops.s (Stp.alloc ty30 (fun b4 => ?_)) rfl
          refine Ops.u (Dtu.asg (lk rfl)) rfl ?_
          refine Ops.nil ?_
          refine Then.next ?_
          refine Body.seq ?_
          refine Body.region ?_
          refine Ops.u (Dtu.mv (lk rfl)) rfl ?_
          refine Ops.s (Stp.call rfl Try.call23 (lks rfl) (fun E' le hat => rruns_ok E' _ _ (Sl.mono (by assumption) le) (by assumption) (by first | assumption | omega)) ?_) rfl
          rintro _ _ ⟨rfl, rfl⟩
          refine Ops.u (Dtu.mv (lk rfl)) rfl ?_
          refine Ops.u (Dtu.ext (lk rfl) rfl) rfl ?_
          refine Ops.u (Dtu.ext (lk rfl) rfl) rfl ?_
          refine Ops.u (Dtu.asg (lk rfl)) rfl ?_
          refine Ops.u (Dtu.asg (lk rfl)) rfl ?_
          refine Ops.nil ?_
          refine Then.next ?_
          refine Body.seq ?_
          refine Body.seq ?_
          refine Body.region ?_
          refine Ops.u (Dtu.mv (lk rfl)) rfl ?_
          refine Ops.u (Dtu.not (lk rfl)) rfl ?_
          refine Ops.u (Dtu.mv (lk rfl)) rfl ?_
          refine Ops.dec 28 rfl (fun hn => absurd hn (by simp [e2])) (fun _ => ?_)
          refine Ops.gd rfl rfl rfl (Det.lda Try.isAgg30 Try.sizeOf30 (lk rfl) (Rds.ow (m := 6) 1 rfl rfl) rfl) rfl ?_
          refine Ops.gs rfl rfl rfl (Stp.call rfl Try.call18 (lks rfl) (fun E' le hat => rright_ok E' ⟨_, _, _, _, _, _⟩ _ (Sl.mono (by assumption) le) (by assumption)) ?_) rfl
          rintro _ _ ⟨rfl, rfl⟩
          refine Ops.gu rfl rfl rfl (Dtu.not (lk rfl)) rfl ?_
          refine Ops.u (Dtu.pickF (lk rfl) (lk rfl)) rfl ?_
          refine Ops.u (Dtu.mv (lk rfl)) rfl ?_
          refine Ops.dec 33 rfl (fun hn => absurd hn (by simp [hk])) (fun _ => ?_)
          refine Ops.gu rfl rfl rfl (Dtu.mv (lk rfl)) rfl ?_
          refine Ops.gu rfl rfl rfl (Dtu.ix (i := 0) Try.underlying32 Try.sizeOf5 (Sl.up h) (lk rfl) (lk rfl) (by omega) (by omega)) rfl ?_
          refine Ops.gd rfl rfl rfl (Det.ld Try.isAgg5 (lk rfl) (Rd.sl (Sl.up h) (gm (by omega)))) rfl ?_
          refine Ops.gu rfl rfl rfl (Dtu.lss (lk rfl) (lk rfl)) rfl ?_
          refine Ops.u (Dtu.pickF (lk rfl) (lk rfl)) rfl ?_
          refine Ops.u (Dtu.mv (lk rfl)) rfl ?_
          refine Ops.decP 39 rfl (fun hy => absurd hy (by first | omega | assumption | decide)) (fun _ => ?_)
          refine Ops.gu rfl rfl rfl (Dtu.mv (lk rfl)) rfl ?_
          refine Ops.gu rfl rfl rfl (Dtu.ix (i := 0) Try.underlying32 Try.sizeOf5 (Sl.up h) (lk rfl) (lk rfl) (by omega) (by omega)) rfl ?_
          refine Ops.gd rfl rfl rfl (Det.ld Try.isAgg5 (lk rfl) (Rd.sl (Sl.up h) (gm (by omega)))) rfl ?_
          refine Ops.gu rfl rfl rfl (Dtu.gtr (lk rfl) (lk rfl)) rfl ?_
          refine Ops.u (Dtu.pickF (lk rfl) (lk rfl)) rfl ?_
          refine Ops.u (Dtu.mv (lk rfl)) rfl ?_
          refine Ops.decP 45 rfl (fun hy => absurd hy (by first | omega | assumption | decide)) (fun _ => ?_)
          refine Ops.gu rfl rfl rfl (Dtu.mv (lk rfl)) rfl ?_
          refine Ops.gu rfl rfl rfl (Dtu.ix (i := 1) Try.underlying32 Try.sizeOf5 (Sl.up h) (lk rfl) (lk rfl) (by omega) (by omega)) rfl ?_
          refine Ops.gd rfl rfl rfl (Det.ld Try.isAgg5 (lk rfl) (Rd.sl (Sl.up h) (gm (by omega)))) rfl ?_
          refine Ops.gu rfl rfl rfl (Dtu.lss (lk rfl) (lk rfl)) rfl ?_
          refine Ops.u (Dtu.pickF (lk rfl) (lk rfl)) rfl ?_
          refine Ops.u (Dtu.mv (lk rfl)) rfl ?_
          refine Ops.decP 51 rfl (fun hy => absurd hy (by first | omega | assumption | decide)) (fun _ => ?_)
          refine Ops.gu rfl rfl rfl (Dtu.mv (lk rfl)) rfl ?_
          refine Ops.gu rfl rfl rfl (Dtu.ix (i := 1) Try.underlying32 Try.sizeOf5 (Sl.up h) (lk rfl) (lk rfl) (by omega) (by omega)) rfl ?_
          refine Ops.gd rfl rfl rfl (Det.ld Try.isAgg5 (lk rfl) (Rd.sl (Sl.up h) (gm (by omega)))) rfl ?_
          refine Ops.gu rfl rfl rfl (Dtu.gtr (lk rfl) (lk rfl)) rfl ?_
          refine Ops.u (Dtu.pickF (lk rfl) (lk rfl)) rfl ?_
          refine Ops.nil ?_
          refine Then.next ?_
          refine Body.condP (lk rfl) (fun hy => absurd hy (by first | omega | assumption | decide)) (fun _ => ?_)
          refine Body.skip ?_
          refine Then.next ?_
          refine Body.seq ?_
          refine Body.draw mixed ?_
          refine AB.u 0 rfl (by decide +kernel) (Dtu.mv (lk rfl)) rfl ?_
          refine AB.u 1 rfl (by decide +kernel) (Dtu.ix (i := 0) Try.underlying32 Try.sizeOf5 (Sl.up h) (lk rfl) (lk rfl) (by omega) (by omega)) rfl ?_
          refine AB.d 2 rfl (by decide +kernel) rfl (Det.ld Try.isAgg5 (lk rfl) (Rd.sl (Sl.up h) (gm (by omega)))) rfl ?_
          refine AB.u 3 rfl (by decide +kernel) (Dtu.cvt Try.underlying5 Try.underlying3 (lk rfl) (w64 (by omega) (by omega))) rfl ?_
          refine AB.u 4 rfl (by decide +kernel) (Dtu.mv (lk rfl)) rfl ?_
          refine AB.u 5 rfl (by decide +kernel) (Dtu.ix (i := 1) Try.underlying32 Try.sizeOf5 (Sl.up h) (lk rfl) (lk rfl) (by omega) (by omega)) rfl ?_
          refine AB.d 6 rfl (by decide +kernel) rfl (Det.ld Try.isAgg5 (lk rfl) (Rd.sl (Sl.up h) (gm (by omega)))) rfl ?_
          refine AB.u 7 rfl (by decide +kernel) (Dtu.cvt Try.underlying5 Try.underlying3 (lk rfl) (w64 (by omega) (by omega))) rfl ?_
          refine AB.u 8 rfl (by decide +kernel) (Dtu.build ty28 pl28 (lkp rfl) rfl rfl) rfl ?_
          refine AB.u 9 rfl (by decide +kernel) (Dtu.mv (lk rfl)) rfl ?_
          refine AB.u 10 rfl (by decide +kernel) (Dtu.ix (i := 2) Try.underlying32 Try.sizeOf5 (Sl.up h) (lk rfl) (lk rfl) (by omega) (by omega)) rfl ?_
          refine AB.d 11 rfl (by decide +kernel) rfl (Det.ld Try.isAgg5 (lk rfl) (Rd.sl (Sl.up h) (gm (by omega)))) rfl ?_
          refine AB.u 12 rfl (by decide +kernel) (Dtu.cvt Try.underlying5 Try.underlying3 (lk rfl) (w64 (by omega) (by omega))) rfl ?_
          refine AB.u 13 rfl (by decide +kernel) (Dtu.mv (lk rfl)) rfl ?_
          refine AB.u 14 rfl (by decide +kernel) (Dtu.ix (i := 3) Try.underlying32 Try.sizeOf5 (Sl.up h) (lk rfl) (lk rfl) (by omega) (by omega)) rfl ?_
          refine AB.d 15 rfl (by decide +kernel) rfl (Det.ld Try.isAgg5 (lk rfl) (Rd.sl (Sl.up h) (gm (by omega)))) rfl ?_
          refine AB.u 16 rfl (by decide +kernel) (Dtu.cvt Try.underlying5 Try.underlying3 (lk rfl) (w64 (by omega) (by omega))) rfl ?_
          refine AB.u 17 rfl (by decide +kernel) (Dtu.mv (lk rfl)) rfl ?_
          refine AB.u 18 rfl (by decide +kernel) (Dtu.ix (i := 4) Try.underlying32 Try.sizeOf5 (Sl.up h) (lk rfl) (lk rfl) (by omega) (by omega)) rfl ?_
          refine AB.d 19 rfl (by decide +kernel) rfl (Det.ld Try.isAgg5 (lk rfl) (Rd.sl (Sl.up h) (gm (by omega)))) rfl ?_
          refine AB.u 20 rfl (by decide +kernel) (Dtu.eql (lk rfl) (lk rfl)) rfl ?_
          refine AB.u 21 rfl (by decide +kernel) (Dtu.build ty30 pl30 (lkp rfl) rfl rfl) rfl ?_
          refine AB.s 22 rfl (by decide +kernel) (by decide +kernel) (Stp.alloc ty30 (fun b8 => ?_)) rfl
          refine AB.e 23 rfl (by decide +kernel) (by decide +kernel) (Stp.store 0 Try.sizeOf30 (lk rfl) (lk rfl) rfl rfl rfl rfl rfl rfl rfl ?_)
          refine AB.done (by decide +kernel) ?_
          refine Then.next ?_
          refine Body.seq ?_
          refine Body.draw mixed ?_
          refine AB.d 0 rfl (by decide +kernel) rfl (Det.lda Try.isAgg30 Try.sizeOf30 (lk rfl) (Rds.ow (m := 6) 2 rfl rfl) rfl) rfl ?_
          refine AB.u 1 rfl (by decide +kernel) (Dtu.mv (lk rfl)) rfl ?_
          refine AB.u 2 rfl (by decide +kernel) (Dtu.ix (i := 0) Try.underlying32 Try.sizeOf5 (Sl.up h) (lk rfl) (lk rfl) (by omega) (by omega)) rfl ?_
          refine AB.d 3 rfl (by decide +kernel) rfl (Det.ld Try.isAgg5 (lk rfl) (Rd.sl (Sl.up h) (gm (by omega)))) rfl ?_
          refine AB.u 4 rfl (by decide +kernel) (Dtu.cvt Try.underlying5 Try.underlying3 (lk rfl) (w64 (by omega) (by omega))) rfl ?_
          refine AB.u 5 rfl (by decide +kernel) (Dtu.mv (lk rfl)) rfl ?_
          refine AB.u 6 rfl (by decide +kernel) (Dtu.ix (i := 1) Try.underlying32 Try.sizeOf5 (Sl.up h) (lk rfl) (lk rfl) (by omega) (by omega)) rfl ?_
          refine AB.d 7 rfl (by decide +kernel) rfl (Det.ld Try.isAgg5 (lk rfl) (Rd.sl (Sl.up h) (gm (by omega)))) rfl ?_
          refine AB.u 8 rfl (by decide +kernel) (Dtu.cvt Try.underlying5 Try.underlying3 (lk rfl) (w64 (by omega) (by omega))) rfl ?_
          refine AB.s 9 rfl (by decide +kernel) (by decide +kernel) (Stp.call rfl Try.call62 (lks rfl) (fun E' le hat => rbase_same E' a sa sm sc bs[0]! bs[1]! he) ?_) rfl
          rintro _ _ ⟨rfl, rfl⟩
          refine AB.u 10 rfl (by decide +kernel) (Dtu.asg (lk rfl)) rfl ?_
          refine AB.done (by decide +kernel) ?_
          refine Then.next ?_
          refine Body.seq ?_
          refine Body.region ?_
          refine Ops.u (Dtu.asg (lk rfl)) rfl ?_
          refine Ops.nil ?_
          refine Then.next ?_
          refine Body.seq ?_
          refine Body.block ?_
          refine Body.conseq (H' := [osl 65 11 (.slice none 0 0) 0 [], own b8 [.int .i64 bs[0]!, .int .i64 bs[1]!, .slice none 0 0, .int .i64 bs[2]!, .int .i64 bs[3]!, .bool (decide (bs[4]! = 1))] 30, own b4 [.int .i64 0, .int .i64 0, .slice none 0 0, .int .i64 0, .int .i64 0, .bool false] 30, own b2 [.int .i64 a.rows, .int .i64 a.cols, .slice sa sm sc, .int .i64 a.row, .int .i64 a.col, .bool a.vis] 30]) (fun w s => osl_nil s) ?_
          refine Body.loopF (γ := Nat × Int × List Cell × Value × List Run) rfl (fun g => [(10, .int .i64 g.2.1)]) (fun g => [osl 65 11 g.2.2.2.1 g.2.2.1.length (g.2.2.1.flatMap Cell.renc), own b8 [.int .i64 bs[0]!, .int .i64 bs[1]!, g.2.2.2.1, .int .i64 bs[2]!, .int .i64 bs[3]!, .bool (decide (bs[4]! = 1))] 30, own b4 [.int .i64 0, .int .i64 0, .slice none 0 0, .int .i64 0, .int .i64 0, .bool false] 30, own b2 [.int .i64 a.rows, .int .i64 a.cols, .slice sa sm sc, .int .i64 a.row, .int .i64 a.col, .bool a.vis] 30])
            (fun g => readRs bs g.1 [] g.2.1 = some g.2.2.2.2 ∧ applyL (g.2.2.1 ++ C.drop g.2.2.1.length) g.2.2.1.length g.2.2.2.2 = Z ∧ g.2.2.1.length ≤ C.length ∧ 5 ≤ g.2.1 ∧ g.2.1 ≤ bs.length ∧ (bs.length : Int) - g.2.1 < g.1) (fun g => g.1) (bs.length + 1, 5, [], .slice none 0 0, rs) ⟨hr0, by simpa using hFIN, by simp, by simp, by simp; omega, by simp; omega⟩ ⟨rfl, trivial⟩ rfl ?_
          rintro ⟨k, p, X, O, R⟩ u ⟨hRR, hZ, hX, hp0, hp1, hpk⟩
          dsimp only at hRR hZ hX hp0 hp1 hpk ⊢
          obtain ⟨k, rfl⟩ : ∃ k', k = k' + 1 := ⟨k - 1, by omega⟩
          refine Body.pure (Sl.isSl (Sl.osl 0 rfl)) fun hO => ?_
          obtain ⟨o1, o2, o3, rfl⟩ := hO
          have g1 := getS_bound bs hb p
          have g2 := getS_next bs p
          have g3 := getS_bound bs hb (getS bs p).2.1
          have g4 := getS_next bs (getS bs p).2.1
          refine Body.seq ?_
          refine Body.seq ?_
          refine Body.region ?_
          refine Ops.u (Dtu.mv (lk rfl)) rfl ?_
          refine Ops.u (Dtu.mv (lk rfl)) rfl ?_
          refine Ops.u (Dtu.lenS Try.underlying32 (Sl.up h) (lk rfl)) rfl ?_
          refine Ops.u (Dtu.lss (lk rfl) (lk rfl)) rfl ?_
          refine Ops.nil ?_
          refine Then.next ?_
          refine Body.condP (lk rfl) (fun c93 => ?_) (fun c93 => ?_)
          · obtain ⟨x1, x2, cs, p', R', hN, hR', rfl⟩ := readRs_step hRR (by omega)
            have hnl := readN_len bs _ _ _ hN
            obtain ⟨q, hq⟩ := Int.eq_ofNat_of_zero_le g3.1
            obtain ⟨sk, hsk⟩ := Int.eq_ofNat_of_zero_le g1.1
            have e1 := g2 (by omega)
            have e2 := g4 (by omega)
            rw [hq, Int.toNat_natCast] at hN hnl
            simp only [List.length_nil, Nat.zero_add] at hnl
            have hBl : (X ++ C.drop X.length).length = C.length := by simp; omega
            have hmn : (min (getS bs p).1 24000).toNat = min sk 24000 := by omega
            have hZe : Z = if C.length < X.length + min sk 24000 ∨ C.length - (X.length + min sk 24000) < cs.length then [] else applyL (lay (X ++ C.drop X.length) (X.length + min sk 24000) cs) (X.length + min sk 24000 + cs.length) R' := by
              rw [← hZ]
              simp only [applyL, hBl, hmn]
            by_cases hfit : X.length + sk + q ≤ C.length
            · refine Body.skip ?_
              refine Then.next ?_
              refine Body.block ?_
              refine Body.seq ?_
              refine Body.region ?_
              refine Ops.u (Dtu.mv (lk rfl)) rfl ?_
              refine Ops.u (Dtu.mv (lk rfl)) rfl ?_
              refine Ops.s (Stp.call rfl Try.call66 (lks rfl) (fun E' le hat => rget_ok E' _ _ _ (Sl.mono (by assumption) le) (by assumption)) ?_) rfl
              rintro _ _ ⟨rfl, rfl⟩
              refine Ops.u (Dtu.mv (lk rfl)) rfl ?_
              refine Ops.u (Dtu.ext (lk rfl) rfl) rfl ?_
              refine Ops.u (Dtu.ext (lk rfl) rfl) rfl ?_
              refine Ops.u (Dtu.ext (lk rfl) rfl) rfl ?_
              refine Ops.u (Dtu.asg (lk rfl)) rfl ?_
              refine Ops.u (Dtu.asg (lk rfl)) rfl ?_
              refine Ops.u (Dtu.asg (lk rfl)) rfl ?_
              refine Ops.nil ?_
              refine Then.next ?_
              refine Body.seq ?_
              refine Body.region ?_
              refine Ops.u (Dtu.mv (lk rfl)) rfl ?_
              refine Ops.u (Dtu.mv (lk rfl)) rfl ?_
              refine Ops.s (Stp.call rfl Try.call66 (lks rfl) (fun E' le hat => rget_ok E' _ _ _ (Sl.mono (by assumption) le) (by assumption)) ?_) rfl
              rintro _ _ ⟨rfl, rfl⟩
              refine Ops.u (Dtu.mv (lk rfl)) rfl ?_
              refine Ops.u (Dtu.ext (lk rfl) rfl) rfl ?_
              refine Ops.u (Dtu.ext (lk rfl) rfl) rfl ?_
              refine Ops.u (Dtu.ext (lk rfl) rfl) rfl ?_
              refine Ops.u (Dtu.asg (lk rfl)) rfl ?_
              refine Ops.u (Dtu.asg (lk rfl)) rfl ?_
              refine Ops.u (Dtu.asg (lk rfl)) rfl ?_
              refine Ops.nil ?_
              refine Then.next ?_
              refine Body.seq ?_
              refine Body.seq ?_
              refine Body.region ?_
              refine Ops.u (Dtu.mv (lk rfl)) rfl ?_
              refine Ops.u (Dtu.gtr (lk rfl) (lk rfl)) rfl ?_
              refine Ops.u (Dtu.mv (lk rfl)) rfl ?_
              refine Ops.decP 110 rfl (fun hy => absurd hy (by first | omega | assumption | decide)) (fun _ => ?_)
              refine Ops.gu rfl rfl rfl (Dtu.mv (lk rfl)) rfl ?_
              refine Ops.gu rfl rfl rfl (Dtu.gtr (lk rfl) (lk rfl)) rfl ?_
              refine Ops.u (Dtu.pickF (lk rfl) (lk rfl)) rfl ?_
              refine Ops.u (Dtu.mv (lk rfl)) rfl ?_
              refine Ops.decP 114 rfl (fun hy => absurd hy (by first | omega | assumption | decide)) (fun _ => ?_)
              refine Ops.gu rfl rfl rfl (Dtu.fld fa30_0 (lk rfl)) rfl ?_
              refine Ops.gu rfl rfl rfl (Dtu.fld fa28_2 (lk rfl)) rfl ?_
              refine Ops.gd rfl rfl rfl (Det.ld Try.isAgg26 (lk rfl) (Rd.ow 1 rfl rfl)) rfl ?_
              refine Ops.gu rfl rfl rfl (Dtu.lenS Try.underlying26 (Sl.osl 0 rfl) (lk rfl)) rfl ?_
              refine Ops.gu rfl rfl rfl (Dtu.mv (lk rfl)) rfl ?_
              refine Ops.gu rfl rfl rfl (Dtu.cvt Try.underlying75 Try.underlying3 (lk rfl) (w64 (by omega) (by omega))) rfl ?_
              refine Ops.gu rfl rfl rfl (Dtu.add (lk rfl) (lk rfl) (w64 (by omega) (by omega))) rfl ?_
              refine Ops.gu rfl rfl rfl (Dtu.mv (lk rfl)) rfl ?_
              refine Ops.gu rfl rfl rfl (Dtu.cvt Try.underlying75 Try.underlying3 (lk rfl) (w64 (by omega) (by omega))) rfl ?_
              refine Ops.gu rfl rfl rfl (Dtu.add (lk rfl) (lk rfl) (w64 (by omega) (by omega))) rfl ?_
              refine Ops.gu rfl rfl rfl (Dtu.mv (lk rfl)) rfl ?_
              refine Ops.gu rfl rfl rfl (Dtu.lenS Try.underlying26 (Sl.up ha) (lk rfl)) rfl ?_
              refine Ops.gu rfl rfl rfl (Dtu.gtr (lk rfl) (lk rfl)) rfl ?_
              refine Ops.u (Dtu.pickF (lk rfl) (lk rfl)) rfl ?_
              refine Ops.nil ?_
              refine Then.next ?_
              refine Body.condP (lk rfl) (fun hy => absurd hy (by first | omega | assumption | decide)) (fun _ => ?_)
              refine Body.skip ?_
              refine Then.next ?_
              refine Body.seq ?_
              refine Body.draw mixed ?_
              refine AB.u 0 rfl (by decide +kernel) (Dtu.fld fa30_0 (lk rfl)) rfl ?_
              refine AB.u 1 rfl (by decide +kernel) (Dtu.fld fa28_2 (lk rfl)) rfl ?_
              refine AB.d 2 rfl (by decide +kernel) rfl (Det.ld Try.isAgg26 (lk rfl) (Rd.ow 1 rfl rfl)) rfl ?_
              refine AB.u 3 rfl (by decide +kernel) (Dtu.mv (lk rfl)) rfl ?_
              refine AB.u 4 rfl (by decide +kernel) (Dtu.fld fa30_0 (lk rfl)) rfl ?_
              refine AB.u 5 rfl (by decide +kernel) (Dtu.fld fa28_2 (lk rfl)) rfl ?_
              refine AB.d 6 rfl (by decide +kernel) rfl (Det.ld Try.isAgg26 (lk rfl) (Rd.ow 1 rfl rfl)) rfl ?_
              refine AB.u 7 rfl (by decide +kernel) (Dtu.lenS Try.underlying26 (Sl.osl 0 rfl) (lk rfl)) rfl ?_
              refine AB.u 8 rfl (by decide +kernel) (Dtu.fld fa30_0 (lk rfl)) rfl ?_
              refine AB.u 9 rfl (by decide +kernel) (Dtu.fld fa28_2 (lk rfl)) rfl ?_
              refine AB.d 10 rfl (by decide +kernel) rfl (Det.ld Try.isAgg26 (lk rfl) (Rd.ow 1 rfl rfl)) rfl ?_
              refine AB.u 11 rfl (by decide +kernel) (Dtu.lenS Try.underlying26 (Sl.osl 0 rfl) (lk rfl)) rfl ?_
              refine AB.u 12 rfl (by decide +kernel) (Dtu.mv (lk rfl)) rfl ?_
              refine AB.u 13 rfl (by decide +kernel) (Dtu.cvt Try.underlying75 Try.underlying3 (lk rfl) (w64 (by omega) (by omega))) rfl ?_
              refine AB.u 14 rfl (by decide +kernel) (Dtu.add (lk rfl) (lk rfl) (w64 (by omega) (by omega))) rfl ?_
              refine AB.u 15 rfl (by decide +kernel) (Dtu.slLH (X.length) (X.length + (getS bs p).fst.toNat) Try.underlying26 Try.sizeOf65 (Sl.up ha) (lk rfl) (lk rfl) (lk rfl) (by omega) (by omega) (by omega) (by omega)) rfl ?_
              refine AB.s 16 rfl (by decide +kernel) (by decide +kernel) (Stp.append 0 Try.underlying26 ty65 rfl rfl (lk rfl) (lk rfl) (Sl.subF (enc := Cell.renc) (fun _ => rfl) (Sl.up ha) _ _ (by omega) (by omega)) (by first | rfl | exact all_map (fun _ => rfl) _ | exact all_flat (fun _ => rfl) _) (by omega) (by omega) (fun v146 => ?_)) rfl
              refine AB.u 17 rfl (by decide +kernel) (Dtu.fld fa30_0 (lk rfl)) rfl ?_
              refine AB.u 18 rfl (by decide +kernel) (Dtu.fld fa28_2 (lk rfl)) rfl ?_
              refine AB.pure (Sl.isSl (Sl.osl 0 rfl)) fun h146 => ?_
              obtain ⟨y1, y2, y3, rfl⟩ := h146
              obtain ⟨X1, hX1⟩ : ∃ X1, X1 = X ++ (C.drop X.length).take sk := ⟨_, rfl⟩
              have hX1l : X1.length = X.length + sk := by rw [hX1]; simp; omega
              have htk : X.length + (getS bs p).1.toNat - X.length = sk := by omega
              refine AB.e 19 rfl (by decide +kernel) (by decide +kernel) (Stp.store 1 Try.sizeOf26 (lk rfl) (lk rfl) rfl rfl rfl rfl rfl rfl rfl ?_)
              refine AB.done (by decide +kernel) ?_
              refine Then.next ?_
              refine Body.seq ?_
              refine Body.seq ?_
              refine Body.region ?_
              refine Ops.u (Dtu.asg (lk rfl)) rfl ?_
              refine Ops.nil ?_
              refine Then.next ?_
              refine Body.block ?_
              refine Body.conseq (H' := [osl 65 11 (.slice y1 y2 y3) X1.length (X1.flatMap Cell.renc), own b8 [.int .i64 bs[0]!, .int .i64 bs[1]!, .slice y1 y2 y3, .int .i64 bs[2]!, .int .i64 bs[3]!, .bool (decide (bs[4]! = 1))] 30, own b4 [.int .i64 0, .int .i64 0, .slice none 0 0, .int .i64 0, .int .i64 0, .bool false] 30, own b2 [.int .i64 a.rows, .int .i64 a.cols, .slice sa sm sc, .int .i64 a.row, .int .i64 a.col, .bool a.vis] 30]) (fun w s => ?_) ?_
              · have e : X1.flatMap Cell.renc = X.flatMap Cell.renc ++ ((C.drop X.length).take sk).flatMap Cell.renc := by rw [hX1, List.flatMap_append]
                rw [htk] at s
                rw [hX1l, e]
                exact s
              refine Body.loopF (γ := List Cell × Int × Value) rfl (fun g => [(17, .int .u64 g.1.length), (15, .int .i64 g.2.1)]) (fun g => [osl 65 11 g.2.2 (X1.length + g.1.length) ((X1 ++ g.1).flatMap Cell.renc), own b8 [.int .i64 bs[0]!, .int .i64 bs[1]!, g.2.2, .int .i64 bs[2]!, .int .i64 bs[3]!, .bool (decide (bs[4]! = 1))] 30, own b4 [.int .i64 0, .int .i64 0, .slice none 0 0, .int .i64 0, .int .i64 0, .bool false] 30, own b2 [.int .i64 a.rows, .int .i64 a.cols, .slice sa sm sc, .int .i64 a.row, .int .i64 a.col, .bool a.vis] 30])
                (fun g => readN bs (q - g.1.length) g.1 g.2.1 = some (cs, p') ∧ g.1.length ≤ q ∧ (getS bs (getS bs p).2.1).2.1 ≤ g.2.1 ∧ g.2.1 ≤ bs.length) (fun g => q - g.1.length) ([], (getS bs (getS bs p).2.1).2.1, .slice y1 y2 y3) ⟨by simpa using hN, by simp, by simp, by dsimp only; omega⟩ ⟨rfl, rfl, trivial⟩ (by simp) ?_
              rintro ⟨acc, pp, O2⟩ u2 ⟨hN2, hacc, hpp0, hpp1⟩
              dsimp only at hN2 hacc hpp0 hpp1 ⊢
              refine Body.pure (Sl.isSl (Sl.osl 0 rfl)) fun hO2 => ?_
              obtain ⟨z1, z2, z3, rfl⟩ := hO2
              have hcf := cellR_fl bs hb pp
              have hcn := cellR_next bs pp
              refine Body.seq ?_
              refine Body.seq ?_
              refine Body.region ?_
              refine Ops.u (Dtu.mv (lk rfl)) rfl ?_
              refine Ops.u (Dtu.mv (lk rfl)) rfl ?_
              refine Ops.u (Dtu.lss (lk rfl) (lk rfl)) rfl ?_
              refine Ops.nil ?_
              refine Then.next ?_
              refine Body.condP (lk rfl) (fun c151 => ?_) (fun c151 => ?_)
              · obtain ⟨d, hd⟩ : ∃ d, q - acc.length = d + 1 := ⟨q - acc.length - 1, by omega⟩
                rw [hd, readN] at hN2
                have herr : (cellR bs pp).2.2 = 0 := by
                  by_cases hh : (cellR bs pp).2.2 = 0
                  · exact hh
                  · rw [if_pos hh] at hN2; cases hN2
                rw [if_neg (by omega)] at hN2
                have e3 := hcn herr
                refine Body.skip ?_
                refine Then.next ?_
                refine Body.seq ?_
                refine Body.block ?_
                refine Body.seq ?_
                refine Body.region ?_
                refine Ops.u (Dtu.mv (lk rfl)) rfl ?_
                refine Ops.u (Dtu.mv (lk rfl)) rfl ?_
                refine Ops.s (Stp.call rfl Try.call35 (lks rfl) (fun E' le hat => rgetCell_ok E' _ _ _ (Sl.mono (by assumption) le) (by assumption)) ?_) rfl
                rintro _ _ ⟨rfl, rfl⟩
                refine Ops.u (Dtu.mv (lk rfl)) rfl ?_
                refine Ops.u (Dtu.ext (lk rfl) rfl) rfl ?_
                refine Ops.u (Dtu.ext (lk rfl) rfl) rfl ?_
                refine Ops.u (Dtu.ext (lk rfl) rfl) rfl ?_
                refine Ops.s (Stp.alloc ty65 (fun b18 => ?_)) rfl
                refine Ops.e (Stp.store 0 Try.sizeOf65 (lk rfl) (lk rfl) rfl rfl rfl rfl rfl rfl rfl ?_)
                refine Ops.u (Dtu.asg (lk rfl)) rfl ?_
                refine Ops.u (Dtu.asg (lk rfl)) rfl ?_
                refine Ops.nil ?_
                refine Then.next ?_
                refine Body.seq ?_
                refine Body.region ?_
                refine Ops.u (Dtu.fld fa30_0 (lk rfl)) rfl ?_
                refine Ops.u (Dtu.fld fa28_2 (lk rfl)) rfl ?_
                refine Ops.d (Det.ld Try.isAgg26 (lk rfl) (Rd.ow 2 rfl rfl)) rfl ?_
                refine Ops.d (Det.lda Try.isAgg65 Try.sizeOf65 (lk rfl) (Rds.ow (m := 11) 0 rfl rfl) rfl) rfl ?_
                refine Ops.s (Stp.buildSliceO Try.underlying26 ty65 (by decide) (by decide) (lkp rfl) rfl rfl rfl (by decide) (fun v165 => ?_)) rfl
                refine Ops.s (Stp.append 2 Try.underlying26 ty65 rfl rfl (lk rfl) (lk rfl) (Sl.osl 0 rfl) (by first | rfl | exact all_map (fun _ => rfl) _ | exact all_flat (fun _ => rfl) _) (by omega) (by omega) (fun v166 => ?_)) rfl
                refine Ops.u (Dtu.fld fa30_0 (lk rfl)) rfl ?_
                refine Ops.u (Dtu.fld fa28_2 (lk rfl)) rfl ?_
                refine Ops.pure (Sl.isSl (Sl.osl 2 rfl)) fun h166 => ?_
                obtain ⟨t1, t2, t3, rfl⟩ := h166
                refine Ops.e (Stp.store 3 Try.sizeOf26 (lk rfl) (lk rfl) rfl rfl rfl rfl rfl rfl rfl ?_)
                refine Ops.nil ?_
                refine Then.next ?_
                refine Body.region ?_
                refine Ops.u (Dtu.mv (lk rfl)) rfl ?_
                refine Ops.u (Dtu.asg (lk rfl)) rfl ?_
                refine Ops.nil ?_
                refine Blk.norm ?_
                refine Then.next ?_
                refine Body.region ?_
                refine Ops.u (Dtu.mv (lk rfl)) rfl ?_
                refine Ops.u (Dtu.add (lk rfl) (lk rfl) (wu64 (by omega) (by omega))) rfl ?_
                refine Ops.u (Dtu.asg (lk rfl)) rfl ?_
                refine Ops.nil ?_
                refine Round.goK [2, 2, 2, 2] (acc ++ [(cellR bs pp).1], (cellR bs pp).2.1, .slice t1 t2 t3) rfl rfl rfl ⟨int_eq (by simp), rfl, trivial⟩ rfl ?_ ⟨?_, by simp; omega, by dsimp only; omega, by dsimp only; omega⟩ (by simp; omega)
                · simp [List.flatMap_append, Cell.renc, rsty, Nat.add_assoc]
                · dsimp only
                  rw [← hN2]; congr 1; simp; omega
              · have hjq : acc.length = q := by omega
                rw [show q - acc.length = 0 by omega, readN] at hN2
                have hca : acc = cs ∧ pp = p' := by simpa using hN2
                obtain ⟨rfl, rfl⟩ := hca
                have hXX : (X1 ++ acc).length = X.length + sk + acc.length := by simp [hX1l]
                refine Body.exit ?_
                refine Then.exit ?_
                refine Round.exit ?_
                refine Blk.here ?_
                refine Then.next ?_
                refine Body.region ?_
                refine Ops.u (Dtu.mv (lk rfl)) rfl ?_
                refine Ops.u (Dtu.asg (lk rfl)) rfl ?_
                refine Ops.nil ?_
                refine Blk.norm ?_
                refine Round.goK [0, 0, 0, 0] (k, pp, X1 ++ acc, .slice z1 z2 z3, R') rfl rfl rfl ⟨rfl, trivial⟩ rfl (by simp) ⟨hR', ?_, by dsimp only; omega, by dsimp only; omega, by dsimp only; omega, by dsimp only; omega⟩ (by simp)
                dsimp only
                rw [if_neg (by omega), show min sk 24000 = sk by omega, lay_step (by omega), ← hX1] at hZe
                rw [hZe, hXX]
            · rw [hnil (by rw [hZe, if_pos (by omega)])]
              refine Body.skip ?_
              refine Then.next ?_
              refine Body.block ?_
              refine Body.seq ?_
              refine Body.region ?_
              refine Ops.u (Dtu.mv (lk rfl)) rfl ?_
              refine Ops.u (Dtu.mv (lk rfl)) rfl ?_
              refine Ops.s (Stp.call rfl Try.call66 (lks rfl) (fun E' le hat => rget_ok E' _ _ _ (Sl.mono (by assumption) le) (by assumption)) ?_) rfl
              rintro _ _ ⟨rfl, rfl⟩
              refine Ops.u (Dtu.mv (lk rfl)) rfl ?_
              refine Ops.u (Dtu.ext (lk rfl) rfl) rfl ?_
              refine Ops.u (Dtu.ext (lk rfl) rfl) rfl ?_
              refine Ops.u (Dtu.ext (lk rfl) rfl) rfl ?_
              refine Ops.u (Dtu.asg (lk rfl)) rfl ?_
              refine Ops.u (Dtu.asg (lk rfl)) rfl ?_
              refine Ops.u (Dtu.asg (lk rfl)) rfl ?_
              refine Ops.nil ?_
              refine Then.next ?_
              refine Body.seq ?_
              refine Body.region ?_
              refine Ops.u (Dtu.mv (lk rfl)) rfl ?_
              refine Ops.u (Dtu.mv (lk rfl)) rfl ?_
              refine Ops.s (Stp.call rfl Try.call66 (lks rfl) (fun E' le hat => rget_ok E' _ _ _ (Sl.mono (by assumption) le) (by assumption)) ?_) rfl
              rintro _ _ ⟨rfl, rfl⟩
              refine Ops.u (Dtu.mv (lk rfl)) rfl ?_
              refine Ops.u (Dtu.ext (lk rfl) rfl) rfl ?_
              refine Ops.u (Dtu.ext (lk rfl) rfl) rfl ?_
              refine Ops.u (Dtu.ext (lk rfl) rfl) rfl ?_
              refine Ops.u (Dtu.asg (lk rfl)) rfl ?_
              refine Ops.u (Dtu.asg (lk rfl)) rfl ?_
              refine Ops.u (Dtu.asg (lk rfl)) rfl ?_
              refine Ops.nil ?_
              refine Then.next ?_
              refine Body.seq ?_
              refine Body.seq ?_
              refine Body.region ?_
              refine Ops.u (Dtu.mv (lk rfl)) rfl ?_
              refine Ops.u (Dtu.gtr (lk rfl) (lk rfl)) rfl ?_
              refine Ops.u (Dtu.mv (lk rfl)) rfl ?_
              refine Ops.decP 110 rfl (fun c110 => ?_) (fun c110 => ?_)
              · refine Ops.gn rfl rfl rfl rfl rfl ?_
                refine Ops.gn rfl rfl rfl rfl rfl ?_
                refine Ops.u (Dtu.pickT (lk rfl) (lk rfl)) rfl ?_
                refine Ops.u (Dtu.mv (lk rfl)) rfl ?_
                refine Ops.gn rfl rfl rfl rfl rfl ?_
                refine Ops.gn rfl rfl rfl rfl rfl ?_
                refine Ops.gn rfl rfl rfl rfl rfl ?_
                refine Ops.gn rfl rfl rfl rfl rfl ?_
                refine Ops.gn rfl rfl rfl rfl rfl ?_
                refine Ops.gn rfl rfl rfl rfl rfl ?_
                refine Ops.gn rfl rfl rfl rfl rfl ?_
                refine Ops.gn rfl rfl rfl rfl rfl ?_
                refine Ops.gn rfl rfl rfl rfl rfl ?_
                refine Ops.gn rfl rfl rfl rfl rfl ?_
                refine Ops.gn rfl rfl rfl rfl rfl ?_
                refine Ops.gn rfl rfl rfl rfl rfl ?_
                refine Ops.gn rfl rfl rfl rfl rfl ?_
                refine Ops.u (Dtu.pickT (lk rfl) (lk rfl)) rfl ?_
                refine Ops.nil ?_
                refine Then.next ?_
                refine Body.condT (lk rfl) ?_
                refine Body.seq ?_
                refine Body.region ?_
                refine Ops.u (Dtu.build ty30 pl30 (lkp rfl) rfl rfl) rfl ?_
                refine Ops.e (Stp.store 2 Try.sizeOf30 (lk rfl) (lk rfl) rfl rfl rfl rfl rfl rfl rfl ?_)
                refine Ops.u (Dtu.asg (lk rfl)) rfl ?_
                refine Ops.nil ?_
                refine Then.next ?_
                refine Body.ret ?_
                refine Then.ret ?_
                refine Blk.ret ?_
                refine Round.ret ?_
                refine Blk.ret ?_
                refine Then.ret ?_
                (exact ⟨.inr rfl, _, Loads.agg Try.isAgg30 Try.sizeOf30 (Rds.ow (m := 6) 2 rfl rfl) rfl, _, pk [] rfl, rfl, rfl⟩)
              · refine Ops.gu rfl rfl rfl (Dtu.mv (lk rfl)) rfl ?_
                refine Ops.gu rfl rfl rfl (Dtu.gtr (lk rfl) (lk rfl)) rfl ?_
                refine Ops.u (Dtu.pickF (lk rfl) (lk rfl)) rfl ?_
                refine Ops.u (Dtu.mv (lk rfl)) rfl ?_
                refine Ops.decP 114 rfl (fun c114 => ?_) (fun c114 => ?_)
                · refine Ops.gn rfl rfl rfl rfl rfl ?_
                  refine Ops.gn rfl rfl rfl rfl rfl ?_
                  refine Ops.gn rfl rfl rfl rfl rfl ?_
                  refine Ops.gn rfl rfl rfl rfl rfl ?_
                  refine Ops.gn rfl rfl rfl rfl rfl ?_
                  refine Ops.gn rfl rfl rfl rfl rfl ?_
                  refine Ops.gn rfl rfl rfl rfl rfl ?_
                  refine Ops.gn rfl rfl rfl rfl rfl ?_
                  refine Ops.gn rfl rfl rfl rfl rfl ?_
                  refine Ops.gn rfl rfl rfl rfl rfl ?_
                  refine Ops.gn rfl rfl rfl rfl rfl ?_
                  refine Ops.gn rfl rfl rfl rfl rfl ?_
                  refine Ops.gn rfl rfl rfl rfl rfl ?_
                  refine Ops.u (Dtu.pickT (lk rfl) (lk rfl)) rfl ?_
                  refine Ops.nil ?_
                  refine Then.next ?_
                  refine Body.condT (lk rfl) ?_
                  refine Body.seq ?_
                  refine Body.region ?_
                  refine Ops.u (Dtu.build ty30 pl30 (lkp rfl) rfl rfl) rfl ?_
                  refine Ops.e (Stp.store 2 Try.sizeOf30 (lk rfl) (lk rfl) rfl rfl rfl rfl rfl rfl rfl ?_)
                  refine Ops.u (Dtu.asg (lk rfl)) rfl ?_
                  refine Ops.nil ?_
                  refine Then.next ?_
                  refine Body.ret ?_
                  refine Then.ret ?_
                  refine Blk.ret ?_
                  refine Round.ret ?_
                  refine Blk.ret ?_
                  refine Then.ret ?_
                  (exact ⟨.inr rfl, _, Loads.agg Try.isAgg30 Try.sizeOf30 (Rds.ow (m := 6) 2 rfl rfl) rfl, _, pk [] rfl, rfl, rfl⟩)
                · refine Ops.gu rfl rfl rfl (Dtu.fld fa30_0 (lk rfl)) rfl ?_
                  refine Ops.gu rfl rfl rfl (Dtu.fld fa28_2 (lk rfl)) rfl ?_
                  refine Ops.gd rfl rfl rfl (Det.ld Try.isAgg26 (lk rfl) (Rd.ow 1 rfl rfl)) rfl ?_
                  refine Ops.gu rfl rfl rfl (Dtu.lenS Try.underlying26 (Sl.osl 0 rfl) (lk rfl)) rfl ?_
                  refine Ops.gu rfl rfl rfl (Dtu.mv (lk rfl)) rfl ?_
                  refine Ops.gu rfl rfl rfl (Dtu.cvt Try.underlying75 Try.underlying3 (lk rfl) (w64 (by omega) (by omega))) rfl ?_
                  refine Ops.gu rfl rfl rfl (Dtu.add (lk rfl) (lk rfl) (w64 (by omega) (by omega))) rfl ?_
                  refine Ops.gu rfl rfl rfl (Dtu.mv (lk rfl)) rfl ?_
                  refine Ops.gu rfl rfl rfl (Dtu.cvt Try.underlying75 Try.underlying3 (lk rfl) (w64 (by omega) (by omega))) rfl ?_
                  refine Ops.gu rfl rfl rfl (Dtu.add (lk rfl) (lk rfl) (w64 (by omega) (by omega))) rfl ?_
                  refine Ops.gu rfl rfl rfl (Dtu.mv (lk rfl)) rfl ?_
                  refine Ops.gu rfl rfl rfl (Dtu.lenS Try.underlying26 (Sl.up ha) (lk rfl)) rfl ?_
                  refine Ops.gu rfl rfl rfl (Dtu.gtr (lk rfl) (lk rfl)) rfl ?_
                  refine Ops.u (Dtu.pickF (lk rfl) (lk rfl)) rfl ?_
                  refine Ops.nil ?_
                  refine Then.next ?_
                  refine Body.condP (lk rfl) (fun _ => ?_) (fun hn => absurd (by first | omega | assumption | decide) hn)
                  refine Body.seq ?_
                  refine Body.region ?_
                  refine Ops.u (Dtu.build ty30 pl30 (lkp rfl) rfl rfl) rfl ?_
                  refine Ops.e (Stp.store 2 Try.sizeOf30 (lk rfl) (lk rfl) rfl rfl rfl rfl rfl rfl rfl ?_)
                  refine Ops.u (Dtu.asg (lk rfl)) rfl ?_
                  refine Ops.nil ?_
                  refine Then.next ?_
                  refine Body.ret ?_
                  refine Then.ret ?_
                  refine Blk.ret ?_
                  refine Round.ret ?_
                  refine Blk.ret ?_
                  refine Then.ret ?_
                  (exact ⟨.inr rfl, _, Loads.agg Try.isAgg30 Try.sizeOf30 (Rds.ow (m := 6) 2 rfl rfl) rfl, _, pk [] rfl, rfl, rfl⟩)
          · have hRn := readRs_end hRR (by omega)
            subst hRn
            have hZX : Z = X ++ C.drop X.length := by rw [← hZ]; rfl
            refine Body.exit ?_
            refine Then.exit ?_
            refine Round.exit ?_
            refine Blk.here ?_
            refine Then.next ?_
            refine Body.seq ?_
            refine Body.draw mixed ?_
            refine AB.u 0 rfl (by decide +kernel) (Dtu.fld fa30_0 (lk rfl)) rfl ?_
            refine AB.u 1 rfl (by decide +kernel) (Dtu.fld fa28_2 (lk rfl)) rfl ?_
            refine AB.d 2 rfl (by decide +kernel) rfl (Det.ld Try.isAgg26 (lk rfl) (Rd.ow 1 rfl rfl)) rfl ?_
            refine AB.u 3 rfl (by decide +kernel) (Dtu.mv (lk rfl)) rfl ?_
            refine AB.u 4 rfl (by decide +kernel) (Dtu.fld fa30_0 (lk rfl)) rfl ?_
            refine AB.u 5 rfl (by decide +kernel) (Dtu.fld fa28_2 (lk rfl)) rfl ?_
            refine AB.d 6 rfl (by decide +kernel) rfl (Det.ld Try.isAgg26 (lk rfl) (Rd.ow 1 rfl rfl)) rfl ?_
            refine AB.u 7 rfl (by decide +kernel) (Dtu.lenS Try.underlying26 (Sl.osl 0 rfl) (lk rfl)) rfl ?_
            refine AB.u 8 rfl (by decide +kernel) (Dtu.slL (X.length) Try.underlying26 Try.sizeOf65 (Sl.up ha) (lk rfl) (lk rfl) (by omega) (by omega)) rfl ?_
            refine AB.s 9 rfl (by decide +kernel) (by decide +kernel) (Stp.append 0 Try.underlying26 ty65 rfl rfl (lk rfl) (lk rfl) (Sl.subF (enc := Cell.renc) (fun _ => rfl) (Sl.up ha) _ _ (by omega) (by omega)) (by first | rfl | exact all_map (fun _ => rfl) _ | exact all_flat (fun _ => rfl) _) (by omega) (by omega) (fun v180 => ?_)) rfl
            refine AB.u 10 rfl (by decide +kernel) (Dtu.fld fa30_0 (lk rfl)) rfl ?_
            refine AB.u 11 rfl (by decide +kernel) (Dtu.fld fa28_2 (lk rfl)) rfl ?_
            refine AB.pure (Sl.isSl (Sl.osl 0 rfl)) fun h180 => ?_
            obtain ⟨y1, y2, y3, rfl⟩ := h180
            refine AB.e 12 rfl (by decide +kernel) (by decide +kernel) (Stp.store 1 Try.sizeOf26 (lk rfl) (lk rfl) rfl rfl rfl rfl rfl rfl rfl ?_)
            refine AB.done (by decide +kernel) ?_
            refine Then.next ?_
            refine Body.seq ?_
            refine Body.seq ?_
            refine Body.draw mixed ?_
            refine AB.d 0 rfl (by decide +kernel) rfl (Det.lda Try.isAgg30 Try.sizeOf30 (lk rfl) (Rds.ow (m := 6) 1 rfl rfl) rfl) rfl ?_
            refine AB.pure (p := True) (fun _ _ => trivial) fun _ => ?_
            have eL : Z.length = X.length + (C.length - X.length) := by rw [hZX]; simp
            have eF : Z.flatMap Cell.renc = X.flatMap Cell.renc ++ ((C.drop X.length).take (C.length - X.length)).flatMap Cell.renc := by
              rw [hZX, List.flatMap_append, List.take_of_length_le (l := C.drop X.length) (by simp)]
            rw [← eL, ← eF]
            refine AB.s 1 rfl (by decide +kernel) (by decide +kernel) (Stp.call rfl Try.call18 (lks rfl) (fun E' le hat => rright_ok E' (View.mk bs[0]! bs[1]! Z bs[2]! bs[3]! (decide (bs[4]! = 1))) (.slice y1 y2 y3) (Sl.at (hat _ (.head _))) hZc) ?_) rfl
            rintro _ _ ⟨rfl, rfl⟩
            cases hkb : View.ok (View.mk bs[0]! bs[1]! Z bs[2]! bs[3]! (decide (bs[4]! = 1))) with
            | false =>
              rw [hbad (by rw [hW]; exact hkb)]
              refine AB.u 2 rfl (by decide +kernel) (Dtu.not (lk rfl)) rfl ?_
              refine AB.u 3 rfl (by decide +kernel) (Dtu.mv (lk rfl)) rfl ?_
              refine AB.gn 4 rfl (by decide +kernel) rfl rfl rfl rfl rfl ?_
              refine AB.gn 5 rfl (by decide +kernel) rfl rfl rfl rfl rfl ?_
              refine AB.gn 6 rfl (by decide +kernel) rfl rfl rfl rfl rfl ?_
              refine AB.gn 7 rfl (by decide +kernel) rfl rfl rfl rfl rfl ?_
              refine AB.gn 8 rfl (by decide +kernel) rfl rfl rfl rfl rfl ?_
              refine AB.gn 9 rfl (by decide +kernel) rfl rfl rfl rfl rfl ?_
              refine AB.gn 10 rfl (by decide +kernel) rfl rfl rfl rfl rfl ?_
              refine AB.u 11 rfl (by decide +kernel) (Dtu.pickT (lk rfl) (lk rfl)) rfl ?_
              refine AB.done (by decide +kernel) ?_
              refine Then.next ?_
              refine Body.condT (lk rfl) ?_
              refine Body.seq ?_
              refine Body.region ?_
              refine Ops.u (Dtu.build ty30 pl30 (lkp rfl) rfl rfl) rfl ?_
              refine Ops.e (Stp.store 2 Try.sizeOf30 (lk rfl) (lk rfl) rfl rfl rfl rfl rfl rfl rfl ?_)
              refine Ops.u (Dtu.asg (lk rfl)) rfl ?_
              refine Ops.nil ?_
              refine Then.next ?_
              refine Body.ret ?_
              refine Then.ret ?_
              exact ⟨.inr rfl, _, Loads.agg Try.isAgg30 Try.sizeOf30 (Rds.ow (m := 6) 2 rfl rfl) rfl, _, pk [] rfl, rfl, rfl⟩
            | true =>
              have hbt := difB_byt (a := a) hkb hZf
              have hW2 : applyW a bs rs = (View.mk bs[0]! bs[1]! Z bs[2]! bs[3]! (decide (bs[4]! = 1))) := hW
              rw [hW2] at hV
              refine AB.u 2 rfl (by decide +kernel) (Dtu.not (lk rfl)) rfl ?_
              refine AB.u 3 rfl (by decide +kernel) (Dtu.mv (lk rfl)) rfl ?_
              refine AB.gd 4 rfl (by decide +kernel) rfl rfl rfl rfl (Det.lda Try.isAgg30 Try.sizeOf30 (lk rfl) (Rds.ow (m := 6) 3 rfl rfl) rfl) rfl ?_
              refine AB.gd 5 rfl (by decide +kernel) rfl rfl rfl rfl (Det.lda Try.isAgg30 Try.sizeOf30 (lk rfl) (Rds.ow (m := 6) 1 rfl rfl) rfl) rfl ?_
              refine AB.gu 8 rfl (by decide +kernel) rfl rfl rfl (Dtu.mv (lk rfl)) rfl ?_
              refine AB.gd 9 rfl (by decide +kernel) rfl rfl rfl rfl (Det.bstr Try.underlying32 Try.underlying5 Try.underlying9 (lk rfl) (Sl.up h)) rfl ?_
              refine AB.gs 6 rfl (by decide +kernel) (by decide +kernel) rfl rfl rfl (Stp.call rfl Try.call19 (lks rfl) (fun E' le hat => rdiff_ok E' a (View.mk bs[0]! bs[1]! Z bs[2]! bs[3]! (decide (bs[4]! = 1))) _ _ (Sl.mono ha0 le) (Sl.at (hat _ (.head _))) hk hkb hfl hZf) ?_) rfl
              rintro _ _ ⟨s189, rfl, rfl⟩
              refine AB.gd 7 rfl (by decide +kernel) rfl rfl rfl rfl (Det.bstr Try.underlying32 Try.underlying5 Try.underlying9 (lk rfl) (Sl.osl 0 rfl)) rfl ?_
              refine AB.gu 10 rfl (by decide +kernel) rfl rfl rfl (Dtu.neStr (lk rfl) (lk rfl)) rfl ?_
              refine AB.u 11 rfl (by decide +kernel) (Dtu.pickF (lk rfl) (lk rfl)) rfl ?_
              refine AB.done (by decide +kernel) ?_
              refine Then.next ?_
              refine Body.condP (lk rfl) (fun c194 => ?_) (fun c194 => ?_)
              · rw [if_neg (fun h => c194 (by rw [h.2]))] at hV
                rw [hV]
                refine Body.seq ?_
                refine Body.region ?_
                refine Ops.u (Dtu.build ty30 pl30 (lkp rfl) rfl rfl) rfl ?_
                refine Ops.e (Stp.store 3 Try.sizeOf30 (lk rfl) (lk rfl) rfl rfl rfl rfl rfl rfl rfl ?_)
                refine Ops.u (Dtu.asg (lk rfl)) rfl ?_
                refine Ops.nil ?_
                refine Then.next ?_
                refine Body.ret ?_
                refine Then.ret ?_
                exact ⟨.inr rfl, _, Loads.agg Try.isAgg30 Try.sizeOf30 (Rds.ow (m := 6) 3 rfl rfl) rfl, _, pk [] rfl, rfl, rfl⟩
              · rw [if_pos ⟨hkb, (strOfNums_inj hbt hb).1 (Decidable.of_not_not c194)⟩] at hV
                rw [hV]
                refine Body.skip ?_
                refine Then.next ?_
                refine Body.seq ?_
                refine Body.region ?_
                refine Ops.d (Det.lda Try.isAgg30 Try.sizeOf30 (lk rfl) (Rds.ow (m := 6) 2 rfl rfl) rfl) rfl ?_
                refine Ops.e (Stp.store 3 Try.sizeOf30 (lk rfl) (lk rfl) rfl rfl rfl rfl rfl rfl rfl ?_)
                refine Ops.u (Dtu.asg (lk rfl)) rfl ?_
                refine Ops.nil ?_
                refine Then.next ?_
                refine Body.ret ?_
                exact ⟨.inr rfl, _, Loads.agg Try.isAgg30 Try.sizeOf30 (Rds.ow (m := 6) 3 rfl rfl) rfl, _, pk [1] rfl, .slice y1 y2 y3, rfl, rfl⟩
        · generalize hC : baseC a bs[0]! bs[1]! = C at *
          generalize hFIN : applyL C 0 rs = Z at *
          refine Body.seq ?_
          refine Body.region ?_
          refine Ops.s (Stp.box (lk rfl) rfl (fun b2 => ?_)) rfl
          refine Ops.s (Stp.alloc ty30 (fun b4 => ?_)) rfl
          refine Ops.u (Dtu.asg (lk rfl)) rfl ?_
          refine Ops.nil ?_
          refine Then.next ?_
          refine Body.seq ?_
          refine Body.region ?_
          refine Ops.u (Dtu.mv (lk rfl)) rfl ?_
          refine Ops.s (Stp.call rfl Try.call23 (lks rfl) (fun E' le hat => rruns_ok E' _ _ (Sl.mono (by assumption) le) (by assumption) (by first | assumption | omega)) ?_) rfl
          rintro _ _ ⟨rfl, rfl⟩
          refine Ops.u (Dtu.mv (lk rfl)) rfl ?_
          refine Ops.u (Dtu.ext (lk rfl) rfl) rfl ?_
          refine Ops.u (Dtu.ext (lk rfl) rfl) rfl ?_
          refine Ops.u (Dtu.asg (lk rfl)) rfl ?_
          refine Ops.u (Dtu.asg (lk rfl)) rfl ?_
          refine Ops.nil ?_
          refine Then.next ?_
          refine Body.seq ?_
          refine Body.seq ?_
          refine Body.region ?_
          refine Ops.u (Dtu.mv (lk rfl)) rfl ?_
          refine Ops.u (Dtu.not (lk rfl)) rfl ?_
          refine Ops.u (Dtu.mv (lk rfl)) rfl ?_
          refine Ops.dec 28 rfl (fun hn => absurd hn (by simp [e2])) (fun _ => ?_)
          refine Ops.gd rfl rfl rfl (Det.lda Try.isAgg30 Try.sizeOf30 (lk rfl) (Rds.ow (m := 6) 1 rfl rfl) rfl) rfl ?_
          refine Ops.gs rfl rfl rfl (Stp.call rfl Try.call18 (lks rfl) (fun E' le hat => rright_ok E' ⟨_, _, _, _, _, _⟩ _ (Sl.mono (by assumption) le) (by assumption)) ?_) rfl
          rintro _ _ ⟨rfl, rfl⟩
          refine Ops.gu rfl rfl rfl (Dtu.not (lk rfl)) rfl ?_
          refine Ops.u (Dtu.pickF (lk rfl) (lk rfl)) rfl ?_
          refine Ops.u (Dtu.mv (lk rfl)) rfl ?_
          refine Ops.dec 33 rfl (fun hn => absurd hn (by simp [hk])) (fun _ => ?_)
          refine Ops.gu rfl rfl rfl (Dtu.mv (lk rfl)) rfl ?_
          refine Ops.gu rfl rfl rfl (Dtu.ix (i := 0) Try.underlying32 Try.sizeOf5 (Sl.up h) (lk rfl) (lk rfl) (by omega) (by omega)) rfl ?_
          refine Ops.gd rfl rfl rfl (Det.ld Try.isAgg5 (lk rfl) (Rd.sl (Sl.up h) (gm (by omega)))) rfl ?_
          refine Ops.gu rfl rfl rfl (Dtu.lss (lk rfl) (lk rfl)) rfl ?_
          refine Ops.u (Dtu.pickF (lk rfl) (lk rfl)) rfl ?_
          refine Ops.u (Dtu.mv (lk rfl)) rfl ?_
          refine Ops.decP 39 rfl (fun hy => absurd hy (by first | omega | assumption | decide)) (fun _ => ?_)
          refine Ops.gu rfl rfl rfl (Dtu.mv (lk rfl)) rfl ?_
          refine Ops.gu rfl rfl rfl (Dtu.ix (i := 0) Try.underlying32 Try.sizeOf5 (Sl.up h) (lk rfl) (lk rfl) (by omega) (by omega)) rfl ?_
          refine Ops.gd rfl rfl rfl (Det.ld Try.isAgg5 (lk rfl) (Rd.sl (Sl.up h) (gm (by omega)))) rfl ?_
          refine Ops.gu rfl rfl rfl (Dtu.gtr (lk rfl) (lk rfl)) rfl ?_
          refine Ops.u (Dtu.pickF (lk rfl) (lk rfl)) rfl ?_
          refine Ops.u (Dtu.mv (lk rfl)) rfl ?_
          refine Ops.decP 45 rfl (fun hy => absurd hy (by first | omega | assumption | decide)) (fun _ => ?_)
          refine Ops.gu rfl rfl rfl (Dtu.mv (lk rfl)) rfl ?_
          refine Ops.gu rfl rfl rfl (Dtu.ix (i := 1) Try.underlying32 Try.sizeOf5 (Sl.up h) (lk rfl) (lk rfl) (by omega) (by omega)) rfl ?_
          refine Ops.gd rfl rfl rfl (Det.ld Try.isAgg5 (lk rfl) (Rd.sl (Sl.up h) (gm (by omega)))) rfl ?_
          refine Ops.gu rfl rfl rfl (Dtu.lss (lk rfl) (lk rfl)) rfl ?_
          refine Ops.u (Dtu.pickF (lk rfl) (lk rfl)) rfl ?_
          refine Ops.u (Dtu.mv (lk rfl)) rfl ?_
          refine Ops.decP 51 rfl (fun hy => absurd hy (by first | omega | assumption | decide)) (fun _ => ?_)
          refine Ops.gu rfl rfl rfl (Dtu.mv (lk rfl)) rfl ?_
          refine Ops.gu rfl rfl rfl (Dtu.ix (i := 1) Try.underlying32 Try.sizeOf5 (Sl.up h) (lk rfl) (lk rfl) (by omega) (by omega)) rfl ?_
          refine Ops.gd rfl rfl rfl (Det.ld Try.isAgg5 (lk rfl) (Rd.sl (Sl.up h) (gm (by omega)))) rfl ?_
          refine Ops.gu rfl rfl rfl (Dtu.gtr (lk rfl) (lk rfl)) rfl ?_
          refine Ops.u (Dtu.pickF (lk rfl) (lk rfl)) rfl ?_
          refine Ops.nil ?_
          refine Then.next ?_
          refine Body.condP (lk rfl) (fun hy => absurd hy (by first | omega | assumption | decide)) (fun _ => ?_)
          refine Body.skip ?_
          refine Then.next ?_
          refine Body.seq ?_
          refine Body.draw mixed ?_
          refine AB.u 0 rfl (by decide +kernel) (Dtu.mv (lk rfl)) rfl ?_
          refine AB.u 1 rfl (by decide +kernel) (Dtu.ix (i := 0) Try.underlying32 Try.sizeOf5 (Sl.up h) (lk rfl) (lk rfl) (by omega) (by omega)) rfl ?_
          refine AB.d 2 rfl (by decide +kernel) rfl (Det.ld Try.isAgg5 (lk rfl) (Rd.sl (Sl.up h) (gm (by omega)))) rfl ?_
          refine AB.u 3 rfl (by decide +kernel) (Dtu.cvt Try.underlying5 Try.underlying3 (lk rfl) (w64 (by omega) (by omega))) rfl ?_
          refine AB.u 4 rfl (by decide +kernel) (Dtu.mv (lk rfl)) rfl ?_
          refine AB.u 5 rfl (by decide +kernel) (Dtu.ix (i := 1) Try.underlying32 Try.sizeOf5 (Sl.up h) (lk rfl) (lk rfl) (by omega) (by omega)) rfl ?_
          refine AB.d 6 rfl (by decide +kernel) rfl (Det.ld Try.isAgg5 (lk rfl) (Rd.sl (Sl.up h) (gm (by omega)))) rfl ?_
          refine AB.u 7 rfl (by decide +kernel) (Dtu.cvt Try.underlying5 Try.underlying3 (lk rfl) (w64 (by omega) (by omega))) rfl ?_
          refine AB.u 8 rfl (by decide +kernel) (Dtu.build ty28 pl28 (lkp rfl) rfl rfl) rfl ?_
          refine AB.u 9 rfl (by decide +kernel) (Dtu.mv (lk rfl)) rfl ?_
          refine AB.u 10 rfl (by decide +kernel) (Dtu.ix (i := 2) Try.underlying32 Try.sizeOf5 (Sl.up h) (lk rfl) (lk rfl) (by omega) (by omega)) rfl ?_
          refine AB.d 11 rfl (by decide +kernel) rfl (Det.ld Try.isAgg5 (lk rfl) (Rd.sl (Sl.up h) (gm (by omega)))) rfl ?_
          refine AB.u 12 rfl (by decide +kernel) (Dtu.cvt Try.underlying5 Try.underlying3 (lk rfl) (w64 (by omega) (by omega))) rfl ?_
          refine AB.u 13 rfl (by decide +kernel) (Dtu.mv (lk rfl)) rfl ?_
          refine AB.u 14 rfl (by decide +kernel) (Dtu.ix (i := 3) Try.underlying32 Try.sizeOf5 (Sl.up h) (lk rfl) (lk rfl) (by omega) (by omega)) rfl ?_
          refine AB.d 15 rfl (by decide +kernel) rfl (Det.ld Try.isAgg5 (lk rfl) (Rd.sl (Sl.up h) (gm (by omega)))) rfl ?_
          refine AB.u 16 rfl (by decide +kernel) (Dtu.cvt Try.underlying5 Try.underlying3 (lk rfl) (w64 (by omega) (by omega))) rfl ?_
          refine AB.u 17 rfl (by decide +kernel) (Dtu.mv (lk rfl)) rfl ?_
          refine AB.u 18 rfl (by decide +kernel) (Dtu.ix (i := 4) Try.underlying32 Try.sizeOf5 (Sl.up h) (lk rfl) (lk rfl) (by omega) (by omega)) rfl ?_
          refine AB.d 19 rfl (by decide +kernel) rfl (Det.ld Try.isAgg5 (lk rfl) (Rd.sl (Sl.up h) (gm (by omega)))) rfl ?_
          refine AB.u 20 rfl (by decide +kernel) (Dtu.eql (lk rfl) (lk rfl)) rfl ?_
          refine AB.u 21 rfl (by decide +kernel) (Dtu.build ty30 pl30 (lkp rfl) rfl rfl) rfl ?_
          refine AB.s 22 rfl (by decide +kernel) (by decide +kernel) (Stp.alloc ty30 (fun b8 => ?_)) rfl
          refine AB.e 23 rfl (by decide +kernel) (by decide +kernel) (Stp.store 0 Try.sizeOf30 (lk rfl) (lk rfl) rfl rfl rfl rfl rfl rfl rfl ?_)
          refine AB.done (by decide +kernel) ?_
          refine Then.next ?_
          refine Body.seq ?_
          refine Body.draw mixed ?_
          refine AB.d 0 rfl (by decide +kernel) rfl (Det.lda Try.isAgg30 Try.sizeOf30 (lk rfl) (Rds.ow (m := 6) 2 rfl rfl) rfl) rfl ?_
          refine AB.u 1 rfl (by decide +kernel) (Dtu.mv (lk rfl)) rfl ?_
          refine AB.u 2 rfl (by decide +kernel) (Dtu.ix (i := 0) Try.underlying32 Try.sizeOf5 (Sl.up h) (lk rfl) (lk rfl) (by omega) (by omega)) rfl ?_
          refine AB.d 3 rfl (by decide +kernel) rfl (Det.ld Try.isAgg5 (lk rfl) (Rd.sl (Sl.up h) (gm (by omega)))) rfl ?_
          refine AB.u 4 rfl (by decide +kernel) (Dtu.cvt Try.underlying5 Try.underlying3 (lk rfl) (w64 (by omega) (by omega))) rfl ?_
          refine AB.u 5 rfl (by decide +kernel) (Dtu.mv (lk rfl)) rfl ?_
          refine AB.u 6 rfl (by decide +kernel) (Dtu.ix (i := 1) Try.underlying32 Try.sizeOf5 (Sl.up h) (lk rfl) (lk rfl) (by omega) (by omega)) rfl ?_
          refine AB.d 7 rfl (by decide +kernel) rfl (Det.ld Try.isAgg5 (lk rfl) (Rd.sl (Sl.up h) (gm (by omega)))) rfl ?_
          refine AB.u 8 rfl (by decide +kernel) (Dtu.cvt Try.underlying5 Try.underlying3 (lk rfl) (w64 (by omega) (by omega))) rfl ?_
          refine AB.s 9 rfl (by decide +kernel) (by decide +kernel) (Stp.call rfl Try.call62 (lks rfl) (fun E' le hat => hnew E' he) ?_) rfl
          rintro _ _ ⟨wa, wm, wc, rfl, rfl⟩
          refine AB.u 10 rfl (by decide +kernel) (Dtu.asg (lk rfl)) rfl ?_
          refine AB.done (by decide +kernel) ?_
          refine Then.next ?_
          refine Body.seq ?_
          refine Body.region ?_
          refine Ops.u (Dtu.asg (lk rfl)) rfl ?_
          refine Ops.nil ?_
          refine Then.next ?_
          refine Body.seq ?_
          refine Body.block ?_
          refine Body.conseq (H' := [osl 65 11 (.slice none 0 0) 0 [], osl 65 11 (.slice wa wm wc) C.length (C.flatMap Cell.renc), own b8 [.int .i64 bs[0]!, .int .i64 bs[1]!, .slice none 0 0, .int .i64 bs[2]!, .int .i64 bs[3]!, .bool (decide (bs[4]! = 1))] 30, own b4 [.int .i64 0, .int .i64 0, .slice none 0 0, .int .i64 0, .int .i64 0, .bool false] 30, own b2 [.int .i64 a.rows, .int .i64 a.cols, .slice sa sm sc, .int .i64 a.row, .int .i64 a.col, .bool a.vis] 30]) (fun w s => osl_nil s) ?_
          refine Body.loopF (γ := Nat × Int × List Cell × Value × List Run) rfl (fun g => [(10, .int .i64 g.2.1)]) (fun g => [osl 65 11 g.2.2.2.1 g.2.2.1.length (g.2.2.1.flatMap Cell.renc), osl 65 11 (.slice wa wm wc) C.length (C.flatMap Cell.renc), own b8 [.int .i64 bs[0]!, .int .i64 bs[1]!, g.2.2.2.1, .int .i64 bs[2]!, .int .i64 bs[3]!, .bool (decide (bs[4]! = 1))] 30, own b4 [.int .i64 0, .int .i64 0, .slice none 0 0, .int .i64 0, .int .i64 0, .bool false] 30, own b2 [.int .i64 a.rows, .int .i64 a.cols, .slice sa sm sc, .int .i64 a.row, .int .i64 a.col, .bool a.vis] 30])
            (fun g => readRs bs g.1 [] g.2.1 = some g.2.2.2.2 ∧ applyL (g.2.2.1 ++ C.drop g.2.2.1.length) g.2.2.1.length g.2.2.2.2 = Z ∧ g.2.2.1.length ≤ C.length ∧ 5 ≤ g.2.1 ∧ g.2.1 ≤ bs.length ∧ (bs.length : Int) - g.2.1 < g.1) (fun g => g.1) (bs.length + 1, 5, [], .slice none 0 0, rs) ⟨hr0, by simpa using hFIN, by simp, by simp, by simp; omega, by simp; omega⟩ ⟨rfl, trivial⟩ rfl ?_
          rintro ⟨k, p, X, O, R⟩ u ⟨hRR, hZ, hX, hp0, hp1, hpk⟩
          dsimp only at hRR hZ hX hp0 hp1 hpk ⊢
          obtain ⟨k, rfl⟩ : ∃ k', k = k' + 1 := ⟨k - 1, by omega⟩
          refine Body.pure (Sl.isSl (Sl.osl 0 rfl)) fun hO => ?_
          obtain ⟨o1, o2, o3, rfl⟩ := hO
          have g1 := getS_bound bs hb p
          have g2 := getS_next bs p
          have g3 := getS_bound bs hb (getS bs p).2.1
          have g4 := getS_next bs (getS bs p).2.1
          refine Body.seq ?_
          refine Body.seq ?_
          refine Body.region ?_
          refine Ops.u (Dtu.mv (lk rfl)) rfl ?_
          refine Ops.u (Dtu.mv (lk rfl)) rfl ?_
          refine Ops.u (Dtu.lenS Try.underlying32 (Sl.up h) (lk rfl)) rfl ?_
          refine Ops.u (Dtu.lss (lk rfl) (lk rfl)) rfl ?_
          refine Ops.nil ?_
          refine Then.next ?_
          refine Body.condP (lk rfl) (fun c93 => ?_) (fun c93 => ?_)
          · obtain ⟨x1, x2, cs, p', R', hN, hR', rfl⟩ := readRs_step hRR (by omega)
            have hnl := readN_len bs _ _ _ hN
            obtain ⟨q, hq⟩ := Int.eq_ofNat_of_zero_le g3.1
            obtain ⟨sk, hsk⟩ := Int.eq_ofNat_of_zero_le g1.1
            have e1 := g2 (by omega)
            have e2 := g4 (by omega)
            rw [hq, Int.toNat_natCast] at hN hnl
            simp only [List.length_nil, Nat.zero_add] at hnl
            have hBl : (X ++ C.drop X.length).length = C.length := by simp; omega
            have hmn : (min (getS bs p).1 24000).toNat = min sk 24000 := by omega
            have hZe : Z = if C.length < X.length + min sk 24000 ∨ C.length - (X.length + min sk 24000) < cs.length then [] else applyL (lay (X ++ C.drop X.length) (X.length + min sk 24000) cs) (X.length + min sk 24000 + cs.length) R' := by
              rw [← hZ]
              simp only [applyL, hBl, hmn]
            by_cases hfit : X.length + sk + q ≤ C.length
            · refine Body.skip ?_
              refine Then.next ?_
              refine Body.block ?_
              refine Body.seq ?_
              refine Body.region ?_
              refine Ops.u (Dtu.mv (lk rfl)) rfl ?_
              refine Ops.u (Dtu.mv (lk rfl)) rfl ?_
              refine Ops.s (Stp.call rfl Try.call66 (lks rfl) (fun E' le hat => rget_ok E' _ _ _ (Sl.mono (by assumption) le) (by assumption)) ?_) rfl
              rintro _ _ ⟨rfl, rfl⟩
              refine Ops.u (Dtu.mv (lk rfl)) rfl ?_
              refine Ops.u (Dtu.ext (lk rfl) rfl) rfl ?_
              refine Ops.u (Dtu.ext (lk rfl) rfl) rfl ?_
              refine Ops.u (Dtu.ext (lk rfl) rfl) rfl ?_
              refine Ops.u (Dtu.asg (lk rfl)) rfl ?_
              refine Ops.u (Dtu.asg (lk rfl)) rfl ?_
              refine Ops.u (Dtu.asg (lk rfl)) rfl ?_
              refine Ops.nil ?_
              refine Then.next ?_
              refine Body.seq ?_
              refine Body.region ?_
              refine Ops.u (Dtu.mv (lk rfl)) rfl ?_
              refine Ops.u (Dtu.mv (lk rfl)) rfl ?_
              refine Ops.s (Stp.call rfl Try.call66 (lks rfl) (fun E' le hat => rget_ok E' _ _ _ (Sl.mono (by assumption) le) (by assumption)) ?_) rfl
              rintro _ _ ⟨rfl, rfl⟩
              refine Ops.u (Dtu.mv (lk rfl)) rfl ?_
              refine Ops.u (Dtu.ext (lk rfl) rfl) rfl ?_
              refine Ops.u (Dtu.ext (lk rfl) rfl) rfl ?_
              refine Ops.u (Dtu.ext (lk rfl) rfl) rfl ?_
              refine Ops.u (Dtu.asg (lk rfl)) rfl ?_
              refine Ops.u (Dtu.asg (lk rfl)) rfl ?_
              refine Ops.u (Dtu.asg (lk rfl)) rfl ?_
              refine Ops.nil ?_
              refine Then.next ?_
              refine Body.seq ?_
              refine Body.seq ?_
              refine Body.region ?_
              refine Ops.u (Dtu.mv (lk rfl)) rfl ?_
              refine Ops.u (Dtu.gtr (lk rfl) (lk rfl)) rfl ?_
              refine Ops.u (Dtu.mv (lk rfl)) rfl ?_
              refine Ops.decP 110 rfl (fun hy => absurd hy (by first | omega | assumption | decide)) (fun _ => ?_)
              refine Ops.gu rfl rfl rfl (Dtu.mv (lk rfl)) rfl ?_
              refine Ops.gu rfl rfl rfl (Dtu.gtr (lk rfl) (lk rfl)) rfl ?_
              refine Ops.u (Dtu.pickF (lk rfl) (lk rfl)) rfl ?_
              refine Ops.u (Dtu.mv (lk rfl)) rfl ?_
              refine Ops.decP 114 rfl (fun hy => absurd hy (by first | omega | assumption | decide)) (fun _ => ?_)
              refine Ops.gu rfl rfl rfl (Dtu.fld fa30_0 (lk rfl)) rfl ?_
              refine Ops.gu rfl rfl rfl (Dtu.fld fa28_2 (lk rfl)) rfl ?_
              refine Ops.gd rfl rfl rfl (Det.ld Try.isAgg26 (lk rfl) (Rd.ow 2 rfl rfl)) rfl ?_
              refine Ops.gu rfl rfl rfl (Dtu.lenS Try.underlying26 (Sl.osl 0 rfl) (lk rfl)) rfl ?_
              refine Ops.gu rfl rfl rfl (Dtu.mv (lk rfl)) rfl ?_
              refine Ops.gu rfl rfl rfl (Dtu.cvt Try.underlying75 Try.underlying3 (lk rfl) (w64 (by omega) (by omega))) rfl ?_
              refine Ops.gu rfl rfl rfl (Dtu.add (lk rfl) (lk rfl) (w64 (by omega) (by omega))) rfl ?_
              refine Ops.gu rfl rfl rfl (Dtu.mv (lk rfl)) rfl ?_
              refine Ops.gu rfl rfl rfl (Dtu.cvt Try.underlying75 Try.underlying3 (lk rfl) (w64 (by omega) (by omega))) rfl ?_
              refine Ops.gu rfl rfl rfl (Dtu.add (lk rfl) (lk rfl) (w64 (by omega) (by omega))) rfl ?_
              refine Ops.gu rfl rfl rfl (Dtu.mv (lk rfl)) rfl ?_
              refine Ops.gu rfl rfl rfl (Dtu.lenS Try.underlying26 (Sl.osl 1 rfl) (lk rfl)) rfl ?_
              refine Ops.gu rfl rfl rfl (Dtu.gtr (lk rfl) (lk rfl)) rfl ?_
              refine Ops.u (Dtu.pickF (lk rfl) (lk rfl)) rfl ?_
              refine Ops.nil ?_
              refine Then.next ?_
              refine Body.condP (lk rfl) (fun hy => absurd hy (by first | omega | assumption | decide)) (fun _ => ?_)
              refine Body.skip ?_
              refine Then.next ?_
              refine Body.seq ?_
              refine Body.draw mixed ?_
              refine AB.u 0 rfl (by decide +kernel) (Dtu.fld fa30_0 (lk rfl)) rfl ?_
              refine AB.u 1 rfl (by decide +kernel) (Dtu.fld fa28_2 (lk rfl)) rfl ?_
              refine AB.d 2 rfl (by decide +kernel) rfl (Det.ld Try.isAgg26 (lk rfl) (Rd.ow 2 rfl rfl)) rfl ?_
              refine AB.u 3 rfl (by decide +kernel) (Dtu.mv (lk rfl)) rfl ?_
              refine AB.u 4 rfl (by decide +kernel) (Dtu.fld fa30_0 (lk rfl)) rfl ?_
              refine AB.u 5 rfl (by decide +kernel) (Dtu.fld fa28_2 (lk rfl)) rfl ?_
              refine AB.d 6 rfl (by decide +kernel) rfl (Det.ld Try.isAgg26 (lk rfl) (Rd.ow 2 rfl rfl)) rfl ?_
              refine AB.u 7 rfl (by decide +kernel) (Dtu.lenS Try.underlying26 (Sl.osl 0 rfl) (lk rfl)) rfl ?_
              refine AB.u 8 rfl (by decide +kernel) (Dtu.fld fa30_0 (lk rfl)) rfl ?_
              refine AB.u 9 rfl (by decide +kernel) (Dtu.fld fa28_2 (lk rfl)) rfl ?_
              refine AB.d 10 rfl (by decide +kernel) rfl (Det.ld Try.isAgg26 (lk rfl) (Rd.ow 2 rfl rfl)) rfl ?_
              refine AB.u 11 rfl (by decide +kernel) (Dtu.lenS Try.underlying26 (Sl.osl 0 rfl) (lk rfl)) rfl ?_
              refine AB.u 12 rfl (by decide +kernel) (Dtu.mv (lk rfl)) rfl ?_
              refine AB.u 13 rfl (by decide +kernel) (Dtu.cvt Try.underlying75 Try.underlying3 (lk rfl) (w64 (by omega) (by omega))) rfl ?_
              refine AB.u 14 rfl (by decide +kernel) (Dtu.add (lk rfl) (lk rfl) (w64 (by omega) (by omega))) rfl ?_
              refine AB.u 15 rfl (by decide +kernel) (Dtu.slLH (X.length) (X.length + (getS bs p).fst.toNat) Try.underlying26 Try.sizeOf65 (Sl.osl 1 rfl) (lk rfl) (lk rfl) (lk rfl) (by omega) (by omega) (by omega) (by omega)) rfl ?_
              refine AB.s 16 rfl (by decide +kernel) (by decide +kernel) (Stp.append 0 Try.underlying26 ty65 rfl rfl (lk rfl) (lk rfl) (Sl.subF (enc := Cell.renc) (fun _ => rfl) (Sl.osl 1 rfl) _ _ (by omega) (by omega)) (by first | rfl | exact all_map (fun _ => rfl) _ | exact all_flat (fun _ => rfl) _) (by omega) (by omega) (fun v146 => ?_)) rfl
              refine AB.u 17 rfl (by decide +kernel) (Dtu.fld fa30_0 (lk rfl)) rfl ?_
              refine AB.u 18 rfl (by decide +kernel) (Dtu.fld fa28_2 (lk rfl)) rfl ?_
              refine AB.pure (Sl.isSl (Sl.osl 0 rfl)) fun h146 => ?_
              obtain ⟨y1, y2, y3, rfl⟩ := h146
              obtain ⟨X1, hX1⟩ : ∃ X1, X1 = X ++ (C.drop X.length).take sk := ⟨_, rfl⟩
              have hX1l : X1.length = X.length + sk := by rw [hX1]; simp; omega
              have htk : X.length + (getS bs p).1.toNat - X.length = sk := by omega
              refine AB.e 19 rfl (by decide +kernel) (by decide +kernel) (Stp.store 2 Try.sizeOf26 (lk rfl) (lk rfl) rfl rfl rfl rfl rfl rfl rfl ?_)
              refine AB.done (by decide +kernel) ?_
              refine Then.next ?_
              refine Body.seq ?_
              refine Body.seq ?_
              refine Body.region ?_
              refine Ops.u (Dtu.asg (lk rfl)) rfl ?_
              refine Ops.nil ?_
              refine Then.next ?_
              refine Body.block ?_
              refine Body.conseq (H' := [osl 65 11 (.slice y1 y2 y3) X1.length (X1.flatMap Cell.renc), osl 65 11 (.slice wa wm wc) C.length (C.flatMap Cell.renc), own b8 [.int .i64 bs[0]!, .int .i64 bs[1]!, .slice y1 y2 y3, .int .i64 bs[2]!, .int .i64 bs[3]!, .bool (decide (bs[4]! = 1))] 30, own b4 [.int .i64 0, .int .i64 0, .slice none 0 0, .int .i64 0, .int .i64 0, .bool false] 30, own b2 [.int .i64 a.rows, .int .i64 a.cols, .slice sa sm sc, .int .i64 a.row, .int .i64 a.col, .bool a.vis] 30]) (fun w s => ?_) ?_
              · have e : X1.flatMap Cell.renc = X.flatMap Cell.renc ++ ((C.drop X.length).take sk).flatMap Cell.renc := by rw [hX1, List.flatMap_append]
                rw [htk] at s
                rw [hX1l, e]
                exact s
              refine Body.loopF (γ := List Cell × Int × Value) rfl (fun g => [(17, .int .u64 g.1.length), (15, .int .i64 g.2.1)]) (fun g => [osl 65 11 g.2.2 (X1.length + g.1.length) ((X1 ++ g.1).flatMap Cell.renc), osl 65 11 (.slice wa wm wc) C.length (C.flatMap Cell.renc), own b8 [.int .i64 bs[0]!, .int .i64 bs[1]!, g.2.2, .int .i64 bs[2]!, .int .i64 bs[3]!, .bool (decide (bs[4]! = 1))] 30, own b4 [.int .i64 0, .int .i64 0, .slice none 0 0, .int .i64 0, .int .i64 0, .bool false] 30, own b2 [.int .i64 a.rows, .int .i64 a.cols, .slice sa sm sc, .int .i64 a.row, .int .i64 a.col, .bool a.vis] 30])
                (fun g => readN bs (q - g.1.length) g.1 g.2.1 = some (cs, p') ∧ g.1.length ≤ q ∧ (getS bs (getS bs p).2.1).2.1 ≤ g.2.1 ∧ g.2.1 ≤ bs.length) (fun g => q - g.1.length) ([], (getS bs (getS bs p).2.1).2.1, .slice y1 y2 y3) ⟨by simpa using hN, by simp, by simp, by dsimp only; omega⟩ ⟨rfl, rfl, trivial⟩ (by simp) ?_
              rintro ⟨acc, pp, O2⟩ u2 ⟨hN2, hacc, hpp0, hpp1⟩
              dsimp only at hN2 hacc hpp0 hpp1 ⊢
              refine Body.pure (Sl.isSl (Sl.osl 0 rfl)) fun hO2 => ?_
              obtain ⟨z1, z2, z3, rfl⟩ := hO2
              have hcf := cellR_fl bs hb pp
              have hcn := cellR_next bs pp
              refine Body.seq ?_
              refine Body.seq ?_
              refine Body.region ?_
              refine Ops.u (Dtu.mv (lk rfl)) rfl ?_
              refine Ops.u (Dtu.mv (lk rfl)) rfl ?_
              refine Ops.u (Dtu.lss (lk rfl) (lk rfl)) rfl ?_
              refine Ops.nil ?_
              refine Then.next ?_
              refine Body.condP (lk rfl) (fun c151 => ?_) (fun c151 => ?_)
              · obtain ⟨d, hd⟩ : ∃ d, q - acc.length = d + 1 := ⟨q - acc.length - 1, by omega⟩
                rw [hd, readN] at hN2
                have herr : (cellR bs pp).2.2 = 0 := by
                  by_cases hh : (cellR bs pp).2.2 = 0
                  · exact hh
                  · rw [if_pos hh] at hN2; cases hN2
                rw [if_neg (by omega)] at hN2
                have e3 := hcn herr
                refine Body.skip ?_
                refine Then.next ?_
                refine Body.seq ?_
                refine Body.block ?_
                refine Body.seq ?_
                refine Body.region ?_
                refine Ops.u (Dtu.mv (lk rfl)) rfl ?_
                refine Ops.u (Dtu.mv (lk rfl)) rfl ?_
                refine Ops.s (Stp.call rfl Try.call35 (lks rfl) (fun E' le hat => rgetCell_ok E' _ _ _ (Sl.mono (by assumption) le) (by assumption)) ?_) rfl
                rintro _ _ ⟨rfl, rfl⟩
                refine Ops.u (Dtu.mv (lk rfl)) rfl ?_
                refine Ops.u (Dtu.ext (lk rfl) rfl) rfl ?_
                refine Ops.u (Dtu.ext (lk rfl) rfl) rfl ?_
                refine Ops.u (Dtu.ext (lk rfl) rfl) rfl ?_
                refine Ops.s (Stp.alloc ty65 (fun b18 => ?_)) rfl
                refine Ops.e (Stp.store 0 Try.sizeOf65 (lk rfl) (lk rfl) rfl rfl rfl rfl rfl rfl rfl ?_)
                refine Ops.u (Dtu.asg (lk rfl)) rfl ?_
                refine Ops.u (Dtu.asg (lk rfl)) rfl ?_
                refine Ops.nil ?_
                refine Then.next ?_
                refine Body.seq ?_
                refine Body.region ?_
                refine Ops.u (Dtu.fld fa30_0 (lk rfl)) rfl ?_
                refine Ops.u (Dtu.fld fa28_2 (lk rfl)) rfl ?_
                refine Ops.d (Det.ld Try.isAgg26 (lk rfl) (Rd.ow 3 rfl rfl)) rfl ?_
                refine Ops.d (Det.lda Try.isAgg65 Try.sizeOf65 (lk rfl) (Rds.ow (m := 11) 0 rfl rfl) rfl) rfl ?_
                refine Ops.s (Stp.buildSliceO Try.underlying26 ty65 (by decide) (by decide) (lkp rfl) rfl rfl rfl (by decide) (fun v165 => ?_)) rfl
                refine Ops.s (Stp.append 2 Try.underlying26 ty65 rfl rfl (lk rfl) (lk rfl) (Sl.osl 0 rfl) (by first | rfl | exact all_map (fun _ => rfl) _ | exact all_flat (fun _ => rfl) _) (by omega) (by omega) (fun v166 => ?_)) rfl
                refine Ops.u (Dtu.fld fa30_0 (lk rfl)) rfl ?_
                refine Ops.u (Dtu.fld fa28_2 (lk rfl)) rfl ?_
                refine Ops.pure (Sl.isSl (Sl.osl 2 rfl)) fun h166 => ?_
                obtain ⟨t1, t2, t3, rfl⟩ := h166
                refine Ops.e (Stp.store 4 Try.sizeOf26 (lk rfl) (lk rfl) rfl rfl rfl rfl rfl rfl rfl ?_)
                refine Ops.nil ?_
                refine Then.next ?_
                refine Body.region ?_
                refine Ops.u (Dtu.mv (lk rfl)) rfl ?_
                refine Ops.u (Dtu.asg (lk rfl)) rfl ?_
                refine Ops.nil ?_
                refine Blk.norm ?_
                refine Then.next ?_
                refine Body.region ?_
                refine Ops.u (Dtu.mv (lk rfl)) rfl ?_
                refine Ops.u (Dtu.add (lk rfl) (lk rfl) (wu64 (by omega) (by omega))) rfl ?_
                refine Ops.u (Dtu.asg (lk rfl)) rfl ?_
                refine Ops.nil ?_
                refine Round.goK [2, 2, 2, 2, 2] (acc ++ [(cellR bs pp).1], (cellR bs pp).2.1, .slice t1 t2 t3) rfl rfl rfl ⟨int_eq (by simp), rfl, trivial⟩ rfl ?_ ⟨?_, by simp; omega, by dsimp only; omega, by dsimp only; omega⟩ (by simp; omega)
                · simp [List.flatMap_append, Cell.renc, rsty, Nat.add_assoc]
                · dsimp only
                  rw [← hN2]; congr 1; simp; omega
              · have hjq : acc.length = q := by omega
                rw [show q - acc.length = 0 by omega, readN] at hN2
                have hca : acc = cs ∧ pp = p' := by simpa using hN2
                obtain ⟨rfl, rfl⟩ := hca
                have hXX : (X1 ++ acc).length = X.length + sk + acc.length := by simp [hX1l]
                refine Body.exit ?_
                refine Then.exit ?_
                refine Round.exit ?_
                refine Blk.here ?_
                refine Then.next ?_
                refine Body.region ?_
                refine Ops.u (Dtu.mv (lk rfl)) rfl ?_
                refine Ops.u (Dtu.asg (lk rfl)) rfl ?_
                refine Ops.nil ?_
                refine Blk.norm ?_
                refine Round.goK [0, 0, 0, 0, 0] (k, pp, X1 ++ acc, .slice z1 z2 z3, R') rfl rfl rfl ⟨rfl, trivial⟩ rfl (by simp) ⟨hR', ?_, by dsimp only; omega, by dsimp only; omega, by dsimp only; omega, by dsimp only; omega⟩ (by simp)
                dsimp only
                rw [if_neg (by omega), show min sk 24000 = sk by omega, lay_step (by omega), ← hX1] at hZe
                rw [hZe, hXX]
            · rw [hnil (by rw [hZe, if_pos (by omega)])]
              refine Body.skip ?_
              refine Then.next ?_
              refine Body.block ?_
              refine Body.seq ?_
              refine Body.region ?_
              refine Ops.u (Dtu.mv (lk rfl)) rfl ?_
              refine Ops.u (Dtu.mv (lk rfl)) rfl ?_
              refine Ops.s (Stp.call rfl Try.call66 (lks rfl) (fun E' le hat => rget_ok E' _ _ _ (Sl.mono (by assumption) le) (by assumption)) ?_) rfl
              rintro _ _ ⟨rfl, rfl⟩
              refine Ops.u (Dtu.mv (lk rfl)) rfl ?_
              refine Ops.u (Dtu.ext (lk rfl) rfl) rfl ?_
              refine Ops.u (Dtu.ext (lk rfl) rfl) rfl ?_
              refine Ops.u (Dtu.ext (lk rfl) rfl) rfl ?_
              refine Ops.u (Dtu.asg (lk rfl)) rfl ?_
              refine Ops.u (Dtu.asg (lk rfl)) rfl ?_
              refine Ops.u (Dtu.asg (lk rfl)) rfl ?_
              refine Ops.nil ?_
              refine Then.next ?_
              refine Body.seq ?_
              refine Body.region ?_
              refine Ops.u (Dtu.mv (lk rfl)) rfl ?_
              refine Ops.u (Dtu.mv (lk rfl)) rfl ?_
              refine Ops.s (Stp.call rfl Try.call66 (lks rfl) (fun E' le hat => rget_ok E' _ _ _ (Sl.mono (by assumption) le) (by assumption)) ?_) rfl
              rintro _ _ ⟨rfl, rfl⟩
              refine Ops.u (Dtu.mv (lk rfl)) rfl ?_
              refine Ops.u (Dtu.ext (lk rfl) rfl) rfl ?_
              refine Ops.u (Dtu.ext (lk rfl) rfl) rfl ?_
              refine Ops.u (Dtu.ext (lk rfl) rfl) rfl ?_
              refine Ops.u (Dtu.asg (lk rfl)) rfl ?_
              refine Ops.u (Dtu.asg (lk rfl)) rfl ?_
              refine Ops.u (Dtu.asg (lk rfl)) rfl ?_
              refine Ops.nil ?_
              refine Then.next ?_
              refine Body.seq ?_
              refine Body.seq ?_
              refine Body.region ?_
              refine Ops.u (Dtu.mv (lk rfl)) rfl ?_
              refine Ops.u (Dtu.gtr (lk rfl) (lk rfl)) rfl ?_
              refine Ops.u (Dtu.mv (lk rfl)) rfl ?_
              refine Ops.decP 110 rfl (fun c110 => ?_) (fun c110 => ?_)
              · refine Ops.gn rfl rfl rfl rfl rfl ?_
                refine Ops.gn rfl rfl rfl rfl rfl ?_
                refine Ops.u (Dtu.pickT (lk rfl) (lk rfl)) rfl ?_
                refine Ops.u (Dtu.mv (lk rfl)) rfl ?_
                refine Ops.gn rfl rfl rfl rfl rfl ?_
                refine Ops.gn rfl rfl rfl rfl rfl ?_
                refine Ops.gn rfl rfl rfl rfl rfl ?_
                refine Ops.gn rfl rfl rfl rfl rfl ?_
                refine Ops.gn rfl rfl rfl rfl rfl ?_
                refine Ops.gn rfl rfl rfl rfl rfl ?_
                refine Ops.gn rfl rfl rfl rfl rfl ?_
                refine Ops.gn rfl rfl rfl rfl rfl ?_
                refine Ops.gn rfl rfl rfl rfl rfl ?_
                refine Ops.gn rfl rfl rfl rfl rfl ?_
                refine Ops.gn rfl rfl rfl rfl rfl ?_
                refine Ops.gn rfl rfl rfl rfl rfl ?_
                refine Ops.gn rfl rfl rfl rfl rfl ?_
                refine Ops.u (Dtu.pickT (lk rfl) (lk rfl)) rfl ?_
                refine Ops.nil ?_
                refine Then.next ?_
                refine Body.condT (lk rfl) ?_
                refine Body.seq ?_
                refine Body.region ?_
                refine Ops.u (Dtu.build ty30 pl30 (lkp rfl) rfl rfl) rfl ?_
                refine Ops.e (Stp.store 3 Try.sizeOf30 (lk rfl) (lk rfl) rfl rfl rfl rfl rfl rfl rfl ?_)
                refine Ops.u (Dtu.asg (lk rfl)) rfl ?_
                refine Ops.nil ?_
                refine Then.next ?_
                refine Body.ret ?_
                refine Then.ret ?_
                refine Blk.ret ?_
                refine Round.ret ?_
                refine Blk.ret ?_
                refine Then.ret ?_
                (exact ⟨.inr rfl, _, Loads.agg Try.isAgg30 Try.sizeOf30 (Rds.ow (m := 6) 3 rfl rfl) rfl, _, pk [] rfl, rfl, rfl⟩)
              · refine Ops.gu rfl rfl rfl (Dtu.mv (lk rfl)) rfl ?_
                refine Ops.gu rfl rfl rfl (Dtu.gtr (lk rfl) (lk rfl)) rfl ?_
                refine Ops.u (Dtu.pickF (lk rfl) (lk rfl)) rfl ?_
                refine Ops.u (Dtu.mv (lk rfl)) rfl ?_
                refine Ops.decP 114 rfl (fun c114 => ?_) (fun c114 => ?_)
                · refine Ops.gn rfl rfl rfl rfl rfl ?_
                  refine Ops.gn rfl rfl rfl rfl rfl ?_
                  refine Ops.gn rfl rfl rfl rfl rfl ?_
                  refine Ops.gn rfl rfl rfl rfl rfl ?_
                  refine Ops.gn rfl rfl rfl rfl rfl ?_
                  refine Ops.gn rfl rfl rfl rfl rfl ?_
                  refine Ops.gn rfl rfl rfl rfl rfl ?_
                  refine Ops.gn rfl rfl rfl rfl rfl ?_
                  refine Ops.gn rfl rfl rfl rfl rfl ?_
                  refine Ops.gn rfl rfl rfl rfl rfl ?_
                  refine Ops.gn rfl rfl rfl rfl rfl ?_
                  refine Ops.gn rfl rfl rfl rfl rfl ?_
                  refine Ops.gn rfl rfl rfl rfl rfl ?_
                  refine Ops.u (Dtu.pickT (lk rfl) (lk rfl)) rfl ?_
                  refine Ops.nil ?_
                  refine Then.next ?_
                  refine Body.condT (lk rfl) ?_
                  refine Body.seq ?_
                  refine Body.region ?_
                  refine Ops.u (Dtu.build ty30 pl30 (lkp rfl) rfl rfl) rfl ?_
                  refine Ops.e (Stp.store 3 Try.sizeOf30 (lk rfl) (lk rfl) rfl rfl rfl rfl rfl rfl rfl ?_)
                  refine Ops.u (Dtu.asg (lk rfl)) rfl ?_
                  refine Ops.nil ?_
                  refine Then.next ?_
                  refine Body.ret ?_
                  refine Then.ret ?_
                  refine Blk.ret ?_
                  refine Round.ret ?_
                  refine Blk.ret ?_
                  refine Then.ret ?_
                  (exact ⟨.inr rfl, _, Loads.agg Try.isAgg30 Try.sizeOf30 (Rds.ow (m := 6) 3 rfl rfl) rfl, _, pk [] rfl, rfl, rfl⟩)
                · refine Ops.gu rfl rfl rfl (Dtu.fld fa30_0 (lk rfl)) rfl ?_
                  refine Ops.gu rfl rfl rfl (Dtu.fld fa28_2 (lk rfl)) rfl ?_
                  refine Ops.gd rfl rfl rfl (Det.ld Try.isAgg26 (lk rfl) (Rd.ow 2 rfl rfl)) rfl ?_
                  refine Ops.gu rfl rfl rfl (Dtu.lenS Try.underlying26 (Sl.osl 0 rfl) (lk rfl)) rfl ?_
                  refine Ops.gu rfl rfl rfl (Dtu.mv (lk rfl)) rfl ?_
                  refine Ops.gu rfl rfl rfl (Dtu.cvt Try.underlying75 Try.underlying3 (lk rfl) (w64 (by omega) (by omega))) rfl ?_
                  refine Ops.gu rfl rfl rfl (Dtu.add (lk rfl) (lk rfl) (w64 (by omega) (by omega))) rfl ?_
                  refine Ops.gu rfl rfl rfl (Dtu.mv (lk rfl)) rfl ?_
                  refine Ops.gu rfl rfl rfl (Dtu.cvt Try.underlying75 Try.underlying3 (lk rfl) (w64 (by omega) (by omega))) rfl ?_
                  refine Ops.gu rfl rfl rfl (Dtu.add (lk rfl) (lk rfl) (w64 (by omega) (by omega))) rfl ?_
                  refine Ops.gu rfl rfl rfl (Dtu.mv (lk rfl)) rfl ?_
                  refine Ops.gu rfl rfl rfl (Dtu.lenS Try.underlying26 (Sl.osl 1 rfl) (lk rfl)) rfl ?_
                  refine Ops.gu rfl rfl rfl (Dtu.gtr (lk rfl) (lk rfl)) rfl ?_
                  refine Ops.u (Dtu.pickF (lk rfl) (lk rfl)) rfl ?_
                  refine Ops.nil ?_
                  refine Then.next ?_
                  refine Body.condP (lk rfl) (fun _ => ?_) (fun hn => absurd (by first | omega | assumption | decide) hn)
                  refine Body.seq ?_
                  refine Body.region ?_
                  refine Ops.u (Dtu.build ty30 pl30 (lkp rfl) rfl rfl) rfl ?_
                  refine Ops.e (Stp.store 3 Try.sizeOf30 (lk rfl) (lk rfl) rfl rfl rfl rfl rfl rfl rfl ?_)
                  refine Ops.u (Dtu.asg (lk rfl)) rfl ?_
                  refine Ops.nil ?_
                  refine Then.next ?_
                  refine Body.ret ?_
                  refine Then.ret ?_
                  refine Blk.ret ?_
                  refine Round.ret ?_
                  refine Blk.ret ?_
                  refine Then.ret ?_
                  (exact ⟨.inr rfl, _, Loads.agg Try.isAgg30 Try.sizeOf30 (Rds.ow (m := 6) 3 rfl rfl) rfl, _, pk [] rfl, rfl, rfl⟩)
          · have hRn := readRs_end hRR (by omega)
            subst hRn
            have hZX : Z = X ++ C.drop X.length := by rw [← hZ]; rfl
            refine Body.exit ?_
            refine Then.exit ?_
            refine Round.exit ?_
            refine Blk.here ?_
            refine Then.next ?_
            refine Body.seq ?_
            refine Body.draw mixed ?_
            refine AB.u 0 rfl (by decide +kernel) (Dtu.fld fa30_0 (lk rfl)) rfl ?_
            refine AB.u 1 rfl (by decide +kernel) (Dtu.fld fa28_2 (lk rfl)) rfl ?_
            refine AB.d 2 rfl (by decide +kernel) rfl (Det.ld Try.isAgg26 (lk rfl) (Rd.ow 2 rfl rfl)) rfl ?_
            refine AB.u 3 rfl (by decide +kernel) (Dtu.mv (lk rfl)) rfl ?_
            refine AB.u 4 rfl (by decide +kernel) (Dtu.fld fa30_0 (lk rfl)) rfl ?_
            refine AB.u 5 rfl (by decide +kernel) (Dtu.fld fa28_2 (lk rfl)) rfl ?_
            refine AB.d 6 rfl (by decide +kernel) rfl (Det.ld Try.isAgg26 (lk rfl) (Rd.ow 2 rfl rfl)) rfl ?_
            refine AB.u 7 rfl (by decide +kernel) (Dtu.lenS Try.underlying26 (Sl.osl 0 rfl) (lk rfl)) rfl ?_
            refine AB.u 8 rfl (by decide +kernel) (Dtu.slL (X.length) Try.underlying26 Try.sizeOf65 (Sl.osl 1 rfl) (lk rfl) (lk rfl) (by omega) (by omega)) rfl ?_
            refine AB.s 9 rfl (by decide +kernel) (by decide +kernel) (Stp.append 0 Try.underlying26 ty65 rfl rfl (lk rfl) (lk rfl) (Sl.subF (enc := Cell.renc) (fun _ => rfl) (Sl.osl 1 rfl) _ _ (by omega) (by omega)) (by first | rfl | exact all_map (fun _ => rfl) _ | exact all_flat (fun _ => rfl) _) (by omega) (by omega) (fun v180 => ?_)) rfl
            refine AB.u 10 rfl (by decide +kernel) (Dtu.fld fa30_0 (lk rfl)) rfl ?_
            refine AB.u 11 rfl (by decide +kernel) (Dtu.fld fa28_2 (lk rfl)) rfl ?_
            refine AB.pure (Sl.isSl (Sl.osl 0 rfl)) fun h180 => ?_
            obtain ⟨y1, y2, y3, rfl⟩ := h180
            refine AB.e 12 rfl (by decide +kernel) (by decide +kernel) (Stp.store 2 Try.sizeOf26 (lk rfl) (lk rfl) rfl rfl rfl rfl rfl rfl rfl ?_)
            refine AB.done (by decide +kernel) ?_
            refine Then.next ?_
            refine Body.seq ?_
            refine Body.seq ?_
            refine Body.draw mixed ?_
            refine AB.d 0 rfl (by decide +kernel) rfl (Det.lda Try.isAgg30 Try.sizeOf30 (lk rfl) (Rds.ow (m := 6) 2 rfl rfl) rfl) rfl ?_
            refine AB.pure (p := True) (fun _ _ => trivial) fun _ => ?_
            have eL : Z.length = X.length + (C.length - X.length) := by rw [hZX]; simp
            have eF : Z.flatMap Cell.renc = X.flatMap Cell.renc ++ ((C.drop X.length).take (C.length - X.length)).flatMap Cell.renc := by
              rw [hZX, List.flatMap_append, List.take_of_length_le (l := C.drop X.length) (by simp)]
            rw [← eL, ← eF]
            refine AB.s 1 rfl (by decide +kernel) (by decide +kernel) (Stp.call rfl Try.call18 (lks rfl) (fun E' le hat => rright_ok E' (View.mk bs[0]! bs[1]! Z bs[2]! bs[3]! (decide (bs[4]! = 1))) (.slice y1 y2 y3) (Sl.at (hat _ (.head _))) hZc) ?_) rfl
            rintro _ _ ⟨rfl, rfl⟩
            cases hkb : View.ok (View.mk bs[0]! bs[1]! Z bs[2]! bs[3]! (decide (bs[4]! = 1))) with
            | false =>
              rw [hbad (by rw [hW]; exact hkb)]
              refine AB.u 2 rfl (by decide +kernel) (Dtu.not (lk rfl)) rfl ?_
              refine AB.u 3 rfl (by decide +kernel) (Dtu.mv (lk rfl)) rfl ?_
              refine AB.gn 4 rfl (by decide +kernel) rfl rfl rfl rfl rfl ?_
              refine AB.gn 5 rfl (by decide +kernel) rfl rfl rfl rfl rfl ?_
              refine AB.gn 6 rfl (by decide +kernel) rfl rfl rfl rfl rfl ?_
              refine AB.gn 7 rfl (by decide +kernel) rfl rfl rfl rfl rfl ?_
              refine AB.gn 8 rfl (by decide +kernel) rfl rfl rfl rfl rfl ?_
              refine AB.gn 9 rfl (by decide +kernel) rfl rfl rfl rfl rfl ?_
              refine AB.gn 10 rfl (by decide +kernel) rfl rfl rfl rfl rfl ?_
              refine AB.u 11 rfl (by decide +kernel) (Dtu.pickT (lk rfl) (lk rfl)) rfl ?_
              refine AB.done (by decide +kernel) ?_
              refine Then.next ?_
              refine Body.condT (lk rfl) ?_
              refine Body.seq ?_
              refine Body.region ?_
              refine Ops.u (Dtu.build ty30 pl30 (lkp rfl) rfl rfl) rfl ?_
              refine Ops.e (Stp.store 3 Try.sizeOf30 (lk rfl) (lk rfl) rfl rfl rfl rfl rfl rfl rfl ?_)
              refine Ops.u (Dtu.asg (lk rfl)) rfl ?_
              refine Ops.nil ?_
              refine Then.next ?_
              refine Body.ret ?_
              refine Then.ret ?_
              exact ⟨.inr rfl, _, Loads.agg Try.isAgg30 Try.sizeOf30 (Rds.ow (m := 6) 3 rfl rfl) rfl, _, pk [] rfl, rfl, rfl⟩
            | true =>
              have hbt := difB_byt (a := a) hkb hZf
              have hW2 : applyW a bs rs = (View.mk bs[0]! bs[1]! Z bs[2]! bs[3]! (decide (bs[4]! = 1))) := hW
              rw [hW2] at hV
              refine AB.u 2 rfl (by decide +kernel) (Dtu.not (lk rfl)) rfl ?_
              refine AB.u 3 rfl (by decide +kernel) (Dtu.mv (lk rfl)) rfl ?_
              refine AB.gd 4 rfl (by decide +kernel) rfl rfl rfl rfl (Det.lda Try.isAgg30 Try.sizeOf30 (lk rfl) (Rds.ow (m := 6) 4 rfl rfl) rfl) rfl ?_
              refine AB.gd 5 rfl (by decide +kernel) rfl rfl rfl rfl (Det.lda Try.isAgg30 Try.sizeOf30 (lk rfl) (Rds.ow (m := 6) 2 rfl rfl) rfl) rfl ?_
              refine AB.gu 8 rfl (by decide +kernel) rfl rfl rfl (Dtu.mv (lk rfl)) rfl ?_
              refine AB.gd 9 rfl (by decide +kernel) rfl rfl rfl rfl (Det.bstr Try.underlying32 Try.underlying5 Try.underlying9 (lk rfl) (Sl.up h)) rfl ?_
              refine AB.gs 6 rfl (by decide +kernel) (by decide +kernel) rfl rfl rfl (Stp.call rfl Try.call19 (lks rfl) (fun E' le hat => rdiff_ok E' a (View.mk bs[0]! bs[1]! Z bs[2]! bs[3]! (decide (bs[4]! = 1))) _ _ (Sl.mono ha le) (Sl.at (hat _ (.head _))) hk hkb hfl hZf) ?_) rfl
              rintro _ _ ⟨s189, rfl, rfl⟩
              refine AB.gd 7 rfl (by decide +kernel) rfl rfl rfl rfl (Det.bstr Try.underlying32 Try.underlying5 Try.underlying9 (lk rfl) (Sl.osl 0 rfl)) rfl ?_
              refine AB.gu 10 rfl (by decide +kernel) rfl rfl rfl (Dtu.neStr (lk rfl) (lk rfl)) rfl ?_
              refine AB.u 11 rfl (by decide +kernel) (Dtu.pickF (lk rfl) (lk rfl)) rfl ?_
              refine AB.done (by decide +kernel) ?_
              refine Then.next ?_
              refine Body.condP (lk rfl) (fun c194 => ?_) (fun c194 => ?_)
              · rw [if_neg (fun h => c194 (by rw [h.2]))] at hV
                rw [hV]
                refine Body.seq ?_
                refine Body.region ?_
                refine Ops.u (Dtu.build ty30 pl30 (lkp rfl) rfl rfl) rfl ?_
                refine Ops.e (Stp.store 4 Try.sizeOf30 (lk rfl) (lk rfl) rfl rfl rfl rfl rfl rfl rfl ?_)
                refine Ops.u (Dtu.asg (lk rfl)) rfl ?_
                refine Ops.nil ?_
                refine Then.next ?_
                refine Body.ret ?_
                refine Then.ret ?_
                exact ⟨.inr rfl, _, Loads.agg Try.isAgg30 Try.sizeOf30 (Rds.ow (m := 6) 4 rfl rfl) rfl, _, pk [] rfl, rfl, rfl⟩
              · rw [if_pos ⟨hkb, (strOfNums_inj hbt hb).1 (Decidable.of_not_not c194)⟩] at hV
                rw [hV]
                refine Body.skip ?_
                refine Then.next ?_
                refine Body.seq ?_
                refine Body.region ?_
                refine Ops.d (Det.lda Try.isAgg30 Try.sizeOf30 (lk rfl) (Rds.ow (m := 6) 3 rfl rfl) rfl) rfl ?_
                refine Ops.e (Stp.store 4 Try.sizeOf30 (lk rfl) (lk rfl) rfl rfl rfl rfl rfl rfl rfl ?_)
                refine Ops.u (Dtu.asg (lk rfl)) rfl ?_
                refine Ops.nil ?_
                refine Then.next ?_
                refine Body.ret ?_
                exact ⟨.inr rfl, _, Loads.agg Try.isAgg30 Try.sizeOf30 (Rds.ow (m := 6) 4 rfl rfl) rfl, _, pk [1] rfl, .slice y1 y2 y3, rfl, rfl⟩
end Go.Proofs.Ytijjjdljdjnbaaa
end
