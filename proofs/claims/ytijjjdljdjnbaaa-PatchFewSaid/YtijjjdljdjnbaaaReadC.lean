/- What bytes are read as: styles and cells. -/
import Derived.Test.YtijjjdljdjnbaaaWrite
namespace Go.Proofs.Ytijjjdljdjnbaaa
set_option maxRecDepth 100000
set_option linter.unusedVariables false
set_option linter.unusedSimpArgs false
open Go.Sx

theorem foldB_bound (l : List Int) (hl : ∀ i, i < l.length → 0 ≤ l[i]! ∧ l[i]! < 256) : ∀ v k, 0 ≤ v → v < 64 * 256 ^ k → 0 ≤ foldB v l ∧ foldB v l < 64 * 256 ^ (k + l.length) := by
  induction l with
  | nil => intro v k h0 h1; exact ⟨h0, h1⟩
  | cons c t ih =>
    intro v k h0 h1
    have hc := hl 0 (by simp)
    simp at hc
    have := ih (fun i hi => by have := hl (i + 1) (by simp; omega); simpa using this) (v * 256 + c) (k + 1) (by omega) (by rw [Int.pow_succ]; omega)
    have e : foldB v (c :: t) = foldB (v * 256 + c) t := rfl
    rw [e, List.length_cons, show k + (t.length + 1) = k + 1 + t.length by omega]
    exact this
theorem manyS_le {c : Int} (h : 0 ≤ c ∧ c < 256) : manyS c ≤ 8 := by
  unfold manyS
  have : (c / 64).toNat ≤ 3 := by omega
  exact Nat.pow_le_pow_right (n := 2) (j := 3) (by omega) this
theorem getS_bound (bs : List Int) (hb : Byt bs) (p : Int) : 0 ≤ (getS bs p).1 ∧ (getS bs p).1 < 4611686018427387904 := by
  unfold getS
  split
  · simp
  · split
    · simp
    · split
      · simp
      · rename_i h1 h2 h3
        have hq : p.toNat < bs.length := by omega
        have hc := hb p.toNat hq
        have hm := manyS_le hc
        generalize hL : (bs.drop (p.toNat + 1)).take (manyS bs[p.toNat]! - 1) = L
        have hlen : L.length ≤ 7 := by rw [← hL, List.length_take]; omega
        have hbL : ∀ i, i < L.length → 0 ≤ L[i]! ∧ L[i]! < 256 := by
          intro i hi
          subst hL
          have hi' : i < manyS bs[p.toNat]! - 1 ∧ p.toNat + 1 + i < bs.length := by rw [List.length_take, List.length_drop] at hi; omega
          have := hb (p.toNat + 1 + i) hi'.2
          rw [getElem!_pos bs (p.toNat + 1 + i) hi'.2] at this
          rw [getElem!_pos ((bs.drop (p.toNat + 1)).take (manyS bs[p.toNat]! - 1)) i hi]
          simpa [List.getElem_take, List.getElem_drop] using this
        obtain ⟨b1, b2⟩ := foldB_bound L hbL (bs[p.toNat]! % 64) 0 (by omega) (by omega)
        have b3 : (64 : Int) * 256 ^ (0 + L.length) ≤ 4611686018427387904 := by
          have : L.length = 0 ∨ L.length = 1 ∨ L.length = 2 ∨ L.length = 3 ∨ L.length = 4 ∨ L.length = 5 ∨ L.length = 6 ∨ L.length = 7 := by omega
          rcases this with e | e | e | e | e | e | e | e <;> rw [e] <;> decide
        dsimp only
        split
        · simp
        · exact ⟨b1, by dsimp only; omega⟩
theorem getS_next (bs : List Int) (p : Int) : (getS bs p).2.2 = 0 → 0 ≤ p ∧ p < (getS bs p).2.1 ∧ (getS bs p).2.1 ≤ bs.length := by
  unfold getS
  split
  · intro h; simp at h
  · split
    · intro h; simp at h
    · split
      · intro h; simp at h
      · dsimp only
        split
        · intro h; simp at h
        · intro _
          dsimp only
          have : 1 ≤ manyS bs[p.toNat]! := Nat.one_le_two_pow
          omega
/-- a style, the place behind it, an error -/
def styleR (bs : List Int) (at_ : Int) : (Int × Int × Int) × Int × Int :=
  if at_ < 0 ∨ (bs.length : Int) < at_ then ((0, 0, 0), 0, 1)
  else if at_ = bs.length then ((0, 0, 0), 0, 10)
  else
    let g1 := getS bs (at_ + 1)
    if g1.2.2 ≠ 0 then ((0, 0, 0), 0, g1.2.2)
    else
      let g2 := getS bs g1.2.1
      if g2.2.2 ≠ 0 then ((0, 0, 0), 0, g2.2.2)
      else
        let fg := min g1.1 2147483648
        let bg := min g2.1 2147483648
        if isCol fg && isCol bg then ((bs[at_.toNat]!, fg, bg), g2.2.1, 0) else ((0, 0, 0), 0, 3)
def styV (s : Int × Int × Int) : Value := .agg #[.int .u8 s.1, .int .u32 s.2.1, .int .u32 s.2.2]
theorem styleRead_ok (E : Env) (b : Value) (bs : List Int) (p : Int) (h : Sl E [] 1 b bs.length (bs.map (.int .u8))) (hb : Byt bs) : Does Try.prog 78 #[b, .int .i64 p] E [] fun r H' =>
    r = .tuple #[styV (styleR bs p).1, .int .i64 (styleR bs p).2.1, .int .i64 (styleR bs p).2.2] ∧ H' = [] := by
  refine Does.pure h.len fun hlen => ?_
  refine Does.go (args := [b, .int .i64 p]) _ _ Try.func78 rfl Try.ntmps78 rfl rfl ?_
  have cl : ∀ q : Int × Int × Int, True := fun _ => trivial
  refine Body.seq ?_
  refine Body.region ?_
  refine Ops.s (Stp.alloc ty53 (fun b4 => ?_)) rfl
  refine Ops.u (Dtu.asg (lk rfl)) rfl ?_
  refine Ops.u (Dtu.asg (lk rfl)) rfl ?_
  refine Ops.nil ?_
  refine Then.next ?_
  refine Body.seq ?_
  refine Body.block ?_
  refine Body.seq ?_
  refine Body.region ?_
  refine Ops.u (Dtu.mv (lk rfl)) rfl ?_
  refine Ops.u (Dtu.lss (lk rfl) (lk rfl)) rfl ?_
  refine Ops.u (Dtu.mv (lk rfl)) rfl ?_
  refine Ops.decP 17 rfl (fun c17 => ?_) (fun c17 => ?_)
  · refine Ops.gn rfl rfl rfl rfl rfl ?_
    refine Ops.gn rfl rfl rfl rfl rfl ?_
    refine Ops.gn rfl rfl rfl rfl rfl ?_
    refine Ops.gn rfl rfl rfl rfl rfl ?_
    refine Ops.u (Dtu.pickT (lk rfl) (lk rfl)) rfl ?_
    refine Ops.u (Dtu.asg (lk rfl)) rfl ?_
    refine Ops.nil ?_
    refine Then.next ?_
    refine Body.condT (lk rfl) ?_
    refine Body.seq ?_
    refine Body.region ?_
    refine Ops.u (Dtu.build ty53 pl53 (lkp rfl) rfl rfl) rfl ?_
    refine Ops.e (Stp.store 0 Try.sizeOf53 (lk rfl) (lk rfl) rfl rfl rfl rfl rfl rfl rfl ?_)
    refine Ops.u (Dtu.asg (lk rfl)) rfl ?_
    refine Ops.u (Dtu.asg (lk rfl)) rfl ?_
    refine Ops.nil ?_
    refine Then.next ?_
    refine Body.ret ?_
    refine Blk.ret ?_
    refine Then.ret ?_
    refine ⟨.inr rfl, _, Loads.agg Try.isAgg53 Try.sizeOf53 (Rds.ow (m := 3) 0 rfl rfl) rfl, _, pk [] rfl, ?_, rfl⟩
    unfold styleR; rw [if_pos (.inl c17)]; rfl
  · refine Ops.gu rfl rfl rfl (Dtu.mv (lk rfl)) rfl ?_
    refine Ops.gu rfl rfl rfl (Dtu.mv (lk rfl)) rfl ?_
    refine Ops.gu rfl rfl rfl (Dtu.lenS Try.underlying32 (Sl.up h) (lk rfl)) rfl ?_
    refine Ops.gu rfl rfl rfl (Dtu.gtr (lk rfl) (lk rfl)) rfl ?_
    refine Ops.u (Dtu.pickF (lk rfl) (lk rfl)) rfl ?_
    refine Ops.u (Dtu.asg (lk rfl)) rfl ?_
    refine Ops.nil ?_
    refine Then.next ?_
    refine Body.condP (lk rfl) (fun c14 => ?_) (fun c14 => ?_)
    · refine Body.seq ?_
      refine Body.region ?_
      refine Ops.u (Dtu.build ty53 pl53 (lkp rfl) rfl rfl) rfl ?_
      refine Ops.e (Stp.store 0 Try.sizeOf53 (lk rfl) (lk rfl) rfl rfl rfl rfl rfl rfl rfl ?_)
      refine Ops.u (Dtu.asg (lk rfl)) rfl ?_
      refine Ops.u (Dtu.asg (lk rfl)) rfl ?_
      refine Ops.nil ?_
      refine Then.next ?_
      refine Body.ret ?_
      refine Blk.ret ?_
      refine Then.ret ?_
      refine ⟨.inr rfl, _, Loads.agg Try.isAgg53 Try.sizeOf53 (Rds.ow (m := 3) 0 rfl rfl) rfl, _, pk [] rfl, ?_, rfl⟩
      unfold styleR; rw [if_pos (.inr c14)]; rfl
    · refine Body.seq ?_
      refine Body.region ?_
      refine Ops.u (Dtu.mv (lk rfl)) rfl ?_
      refine Ops.u (Dtu.mv (lk rfl)) rfl ?_
      refine Ops.u (Dtu.lenS Try.underlying32 (Sl.up h) (lk rfl)) rfl ?_
      refine Ops.u (Dtu.eql (lk rfl) (lk rfl)) rfl ?_
      refine Ops.u (Dtu.asg (lk rfl)) rfl ?_
      refine Ops.nil ?_
      refine Then.next ?_
      refine Body.condP (lk rfl) (fun c24 => ?_) (fun c24 => ?_)
      · refine Body.seq ?_
        refine Body.region ?_
        refine Ops.u (Dtu.build ty53 pl53 (lkp rfl) rfl rfl) rfl ?_
        refine Ops.e (Stp.store 0 Try.sizeOf53 (lk rfl) (lk rfl) rfl rfl rfl rfl rfl rfl rfl ?_)
        refine Ops.u (Dtu.asg (lk rfl)) rfl ?_
        refine Ops.u (Dtu.asg (lk rfl)) rfl ?_
        refine Ops.nil ?_
        refine Then.next ?_
        refine Body.ret ?_
        refine Blk.ret ?_
        refine Then.ret ?_
        refine ⟨.inr rfl, _, Loads.agg Try.isAgg53 Try.sizeOf53 (Rds.ow (m := 3) 0 rfl rfl) rfl, _, pk [] rfl, ?_, rfl⟩
        unfold styleR; rw [if_neg (by omega), if_pos c24]; rfl
      · obtain ⟨q, rfl⟩ := Int.eq_ofNat_of_zero_le (show 0 ≤ p by omega)
        have hq : q < bs.length := by omega
        have a1 := getS_bound bs hb ((q : Int) + 1)
        have a2 := getS_bound bs hb (getS bs ((q : Int) + 1)).2.1
        have hst : styleR bs (q : Int) = (
            let g1 := getS bs ((q : Int) + 1)
            if g1.2.2 ≠ 0 then ((0, 0, 0), 0, g1.2.2)
            else
              let g2 := getS bs g1.2.1
              if g2.2.2 ≠ 0 then ((0, 0, 0), 0, g2.2.2)
              else
                let fg := min g1.1 2147483648
                let bg := min g2.1 2147483648
                if isCol fg && isCol bg then ((bs[q]!, fg, bg), g2.2.1, 0) else ((0, 0, 0), 0, 3)) := by
          unfold styleR
          rw [if_neg (by omega), if_neg (by omega)]
          simp only [Int.toNat_natCast]
        dsimp only at hst
        refine Body.skip ?_
        refine Blk.norm ?_
        refine Then.next ?_
        refine Body.seq ?_
        refine Body.region ?_
        refine Ops.s (Stp.alloc ty185 (fun b7 => ?_)) rfl
        refine Ops.nil ?_
        refine Then.next ?_
        refine Body.seq ?_
        refine Body.region ?_
        refine Ops.u (Dtu.mv (lk rfl)) rfl ?_
        refine Ops.u (Dtu.add (lk rfl) (lk rfl) (w64 (by omega) (by omega))) rfl ?_
        refine Ops.u (Dtu.asg (lk rfl)) rfl ?_
        refine Ops.nil ?_
        refine Then.next ?_
        refine Body.seq ?_
        refine Body.seq ?_
        refine Body.region ?_
        refine Ops.u (Dtu.mv (lk rfl)) rfl ?_
        refine Ops.nil ?_
        refine Then.next ?_
        refine Body.block ?_
        refine Body.loopF (γ := Nat × Int × Int × Int) rfl (fun g => [(32, .int .i64 g.1), (8, .int .i64 g.2.1)]) (fun g => [own b7 [.int .u64 g.2.2.1, .int .u64 g.2.2.2] 185, own b4 [.int .u8 0, .int .u32 0, .int .u32 0] 53])
          (fun g => (g = (0, (q : Int) + 1, 0, 0)) ∨ (g = (1, (getS bs ((q : Int) + 1)).2.1, (getS bs ((q : Int) + 1)).1, 0) ∧ (getS bs ((q : Int) + 1)).2.2 = 0) ∨ (g = (2, (getS bs (getS bs ((q : Int) + 1)).2.1).2.1, (getS bs ((q : Int) + 1)).1, (getS bs (getS bs ((q : Int) + 1)).2.1).1) ∧ (getS bs ((q : Int) + 1)).2.2 = 0 ∧ (getS bs (getS bs ((q : Int) + 1)).2.1).2.2 = 0)) (fun g => 2 - g.1) (0, (q : Int) + 1, 0, 0) (.inl rfl) ⟨rfl, rfl, trivial⟩ rfl ?_
        rintro g u (rfl | ⟨rfl, k1⟩ | ⟨rfl, k1, k2⟩)
        · dsimp only
          refine Body.seq ?_
          refine Body.region ?_
          refine Ops.u (Dtu.lss (lk rfl) (lk rfl)) rfl ?_
          refine Ops.nil ?_
          refine Then.next ?_
          refine Body.seq ?_
          refine Body.condP (lk rfl) (fun _ => ?_) (fun hn => absurd (by first | omega | assumption | decide) hn)
          refine Body.skip ?_
          refine Then.next ?_
          refine Body.seq ?_
          refine Body.block ?_
          refine Body.seq ?_
          refine Body.region ?_
          refine Ops.u (Dtu.mv (lk rfl)) rfl ?_
          refine Ops.u (Dtu.asg (lk rfl)) rfl ?_
          refine Ops.nil ?_
          refine Then.next ?_
          refine Body.seq ?_
          refine Body.region ?_
          refine Ops.u (Dtu.mv (lk rfl)) rfl ?_
          refine Ops.u (Dtu.mv (lk rfl)) rfl ?_
          refine Ops.s (Stp.call rfl Try.call74 (lks rfl) (fun E' le hat => get_ok E' _ _ _ (Sl.mono (by assumption) le) (by assumption)) ?_) rfl
          rintro _ _ ⟨rfl, rfl⟩
          refine Ops.u (Dtu.mv (lk rfl)) rfl ?_
          refine Ops.u (Dtu.ext (lk rfl) rfl) rfl ?_
          refine Ops.u (Dtu.ext (lk rfl) rfl) rfl ?_
          refine Ops.u (Dtu.ext (lk rfl) rfl) rfl ?_
          refine Ops.u (Dtu.asg (lk rfl)) rfl ?_
          refine Ops.u (Dtu.asg (lk rfl)) rfl ?_
          refine Ops.u (Dtu.asg (lk rfl)) rfl ?_
          refine Ops.nil ?_
          refine Then.next ?_
          refine Body.seq ?_
          refine Body.seq ?_
          refine Body.region ?_
          refine Ops.u (Dtu.mv (lk rfl)) rfl ?_
          refine Ops.u (Dtu.neq (lk rfl) (lk rfl)) rfl ?_
          refine Ops.nil ?_
          refine Then.next ?_
          refine Body.condP (lk rfl) (fun c43 => ?_) (fun c43 => ?_)
          · refine Body.seq ?_
            refine Body.region ?_
            refine Ops.u (Dtu.build ty53 pl53 (lkp rfl) rfl rfl) rfl ?_
            refine Ops.u (Dtu.mv (lk rfl)) rfl ?_
            refine Ops.e (Stp.store 1 Try.sizeOf53 (lk rfl) (lk rfl) rfl rfl rfl rfl rfl rfl rfl ?_)
            refine Ops.u (Dtu.asg (lk rfl)) rfl ?_
            refine Ops.u (Dtu.asg (lk rfl)) rfl ?_
            refine Ops.nil ?_
            refine Then.next ?_
            refine Body.ret ?_
            refine Then.ret ?_
            refine Blk.ret ?_
            refine Then.ret ?_
            refine Round.ret ?_
            refine Blk.ret ?_
            refine Then.ret ?_
            refine ⟨.inr rfl, _, Loads.agg Try.isAgg53 Try.sizeOf53 (Rds.ow (m := 3) 1 rfl rfl) rfl, _, pk [] rfl, ?_, rfl⟩
            rw [hst, if_pos c43]; rfl
          · refine Body.skip ?_
            refine Then.next ?_
            refine Body.region ?_
            refine Ops.u (Dtu.mv (lk rfl)) rfl ?_
            refine Ops.u (Dtu.mv (lk rfl)) rfl ?_
            refine Ops.u (Dtu.mv (lk rfl)) rfl ?_
            refine Ops.u (Dtu.ixa (i := 0) Try.underlying185 Try.sizeOf75 (lk rfl) (lk rfl) (by omega) (by omega)) rfl ?_
            refine Ops.e (Stp.store 0 Try.sizeOf75 (lk rfl) (lk rfl) rfl rfl rfl rfl rfl rfl rfl ?_)
            refine Ops.u (Dtu.asg (lk rfl)) rfl ?_
            refine Ops.nil ?_
            refine Blk.norm ?_
            refine Then.next ?_
            refine Body.region ?_
            refine Ops.u (Dtu.add (lk rfl) (lk rfl) (w64 (by omega) (by omega))) rfl ?_
            refine Ops.u (Dtu.mv (lk rfl)) rfl ?_
            refine Ops.nil ?_
            exact Round.goF (1, (getS bs ((q : Int) + 1)).2.1, (getS bs ((q : Int) + 1)).1, 0) rfl rfl rfl ⟨rfl, rfl, trivial⟩ rfl (.inr (.inl ⟨rfl, by omega⟩)) (by simp)
        · dsimp only
          refine Body.seq ?_
          refine Body.region ?_
          refine Ops.u (Dtu.lss (lk rfl) (lk rfl)) rfl ?_
          refine Ops.nil ?_
          refine Then.next ?_
          refine Body.seq ?_
          refine Body.condP (lk rfl) (fun _ => ?_) (fun hn => absurd (by first | omega | assumption | decide) hn)
          refine Body.skip ?_
          refine Then.next ?_
          refine Body.seq ?_
          refine Body.block ?_
          refine Body.seq ?_
          refine Body.region ?_
          refine Ops.u (Dtu.mv (lk rfl)) rfl ?_
          refine Ops.u (Dtu.asg (lk rfl)) rfl ?_
          refine Ops.nil ?_
          refine Then.next ?_
          refine Body.seq ?_
          refine Body.region ?_
          refine Ops.u (Dtu.mv (lk rfl)) rfl ?_
          refine Ops.u (Dtu.mv (lk rfl)) rfl ?_
          refine Ops.s (Stp.call rfl Try.call74 (lks rfl) (fun E' le hat => get_ok E' _ _ _ (Sl.mono (by assumption) le) (by assumption)) ?_) rfl
          rintro _ _ ⟨rfl, rfl⟩
          refine Ops.u (Dtu.mv (lk rfl)) rfl ?_
          refine Ops.u (Dtu.ext (lk rfl) rfl) rfl ?_
          refine Ops.u (Dtu.ext (lk rfl) rfl) rfl ?_
          refine Ops.u (Dtu.ext (lk rfl) rfl) rfl ?_
          refine Ops.u (Dtu.asg (lk rfl)) rfl ?_
          refine Ops.u (Dtu.asg (lk rfl)) rfl ?_
          refine Ops.u (Dtu.asg (lk rfl)) rfl ?_
          refine Ops.nil ?_
          refine Then.next ?_
          refine Body.seq ?_
          refine Body.seq ?_
          refine Body.region ?_
          refine Ops.u (Dtu.mv (lk rfl)) rfl ?_
          refine Ops.u (Dtu.neq (lk rfl) (lk rfl)) rfl ?_
          refine Ops.nil ?_
          refine Then.next ?_
          refine Body.condP (lk rfl) (fun c43 => ?_) (fun c43 => ?_)
          · refine Body.seq ?_
            refine Body.region ?_
            refine Ops.u (Dtu.build ty53 pl53 (lkp rfl) rfl rfl) rfl ?_
            refine Ops.u (Dtu.mv (lk rfl)) rfl ?_
            refine Ops.e (Stp.store 1 Try.sizeOf53 (lk rfl) (lk rfl) rfl rfl rfl rfl rfl rfl rfl ?_)
            refine Ops.u (Dtu.asg (lk rfl)) rfl ?_
            refine Ops.u (Dtu.asg (lk rfl)) rfl ?_
            refine Ops.nil ?_
            refine Then.next ?_
            refine Body.ret ?_
            refine Then.ret ?_
            refine Blk.ret ?_
            refine Then.ret ?_
            refine Round.ret ?_
            refine Blk.ret ?_
            refine Then.ret ?_
            refine ⟨.inr rfl, _, Loads.agg Try.isAgg53 Try.sizeOf53 (Rds.ow (m := 3) 1 rfl rfl) rfl, _, pk [] rfl, ?_, rfl⟩
            rw [hst, if_neg (by omega), if_pos c43]; rfl
          · refine Body.skip ?_
            refine Then.next ?_
            refine Body.region ?_
            refine Ops.u (Dtu.mv (lk rfl)) rfl ?_
            refine Ops.u (Dtu.mv (lk rfl)) rfl ?_
            refine Ops.u (Dtu.mv (lk rfl)) rfl ?_
            refine Ops.u (Dtu.ixa (i := 1) Try.underlying185 Try.sizeOf75 (lk rfl) (lk rfl) (by omega) (by omega)) rfl ?_
            refine Ops.e (Stp.store 0 Try.sizeOf75 (lk rfl) (lk rfl) rfl rfl rfl rfl rfl rfl rfl ?_)
            refine Ops.u (Dtu.asg (lk rfl)) rfl ?_
            refine Ops.nil ?_
            refine Blk.norm ?_
            refine Then.next ?_
            refine Body.region ?_
            refine Ops.u (Dtu.add (lk rfl) (lk rfl) (w64 (by omega) (by omega))) rfl ?_
            refine Ops.u (Dtu.mv (lk rfl)) rfl ?_
            refine Ops.nil ?_
            exact Round.goF (2, (getS bs (getS bs ((q : Int) + 1)).2.1).2.1, (getS bs ((q : Int) + 1)).1, (getS bs (getS bs ((q : Int) + 1)).2.1).1) rfl rfl rfl ⟨rfl, rfl, trivial⟩ rfl (.inr (.inr ⟨rfl, by omega, by omega⟩)) (by simp)
        · dsimp only
          refine Body.seq ?_
          refine Body.region ?_
          refine Ops.u (Dtu.lss (lk rfl) (lk rfl)) rfl ?_
          refine Ops.nil ?_
          refine Then.next ?_
          refine Body.seq ?_
          refine Body.condP (lk rfl) (fun hy => absurd hy (by first | omega | assumption | decide)) (fun _ => ?_)
          refine Body.exit ?_
          refine Then.exit ?_
          refine Round.exit ?_
          refine Blk.here ?_
          refine Then.next ?_
          refine Body.seq ?_
          refine Body.draw mixed ?_
          refine AB.u 0 rfl (by decide +kernel) (Dtu.mv (lk rfl)) rfl ?_
          refine AB.u 1 rfl (by decide +kernel) (Dtu.mv (lk rfl)) rfl ?_
          refine AB.u 2 rfl (by decide +kernel) (Dtu.ix (i := (q)) Try.underlying32 Try.sizeOf5 (Sl.up h) (lk rfl) (lk rfl) (by omega) (by omega)) rfl ?_
          refine AB.d 3 rfl (by decide +kernel) rfl (Det.ld Try.isAgg5 (lk rfl) (Rd.sl (Sl.up h) (gm (by omega)))) rfl ?_
          refine AB.u 4 rfl (by decide +kernel) (Dtu.ixa (i := 0) Try.underlying185 Try.sizeOf75 (lk rfl) (lk rfl) (by omega) (by omega)) rfl ?_
          refine AB.d 5 rfl (by decide +kernel) rfl (Det.ld Try.isAgg75 (lk rfl) (Rd.ow 0 rfl rfl)) rfl ?_
          refine AB.u 6 rfl (by decide +kernel) (Dtu.min (lk rfl) (lk rfl)) rfl ?_
          refine AB.u 7 rfl (by decide +kernel) (Dtu.cvt Try.underlying75 Try.underlying51 (lk rfl) (wu32 (by omega) (by omega))) rfl ?_
          refine AB.u 8 rfl (by decide +kernel) (Dtu.ixa (i := 1) Try.underlying185 Try.sizeOf75 (lk rfl) (lk rfl) (by omega) (by omega)) rfl ?_
          refine AB.d 9 rfl (by decide +kernel) rfl (Det.ld Try.isAgg75 (lk rfl) (Rd.ow 0 rfl rfl)) rfl ?_
          refine AB.u 10 rfl (by decide +kernel) (Dtu.min (lk rfl) (lk rfl)) rfl ?_
          refine AB.u 11 rfl (by decide +kernel) (Dtu.cvt Try.underlying75 Try.underlying51 (lk rfl) (wu32 (by omega) (by omega))) rfl ?_
          refine AB.u 12 rfl (by decide +kernel) (Dtu.build ty53 pl53 (lkp rfl) rfl rfl) rfl ?_
          refine AB.s 13 rfl (by decide +kernel) (by decide +kernel) (Stp.alloc ty53 (fun b13 => ?_)) rfl
          refine AB.e 14 rfl (by decide +kernel) (by decide +kernel) (Stp.store 0 Try.sizeOf53 (lk rfl) (lk rfl) rfl rfl rfl rfl rfl rfl rfl ?_)
          refine AB.done (by decide +kernel) ?_
          refine Then.next ?_
          refine Body.seq ?_
          refine Body.seq ?_
          refine Body.region ?_
          refine Ops.d (Det.lda Try.isAgg53 Try.sizeOf53 (lk rfl) (Rds.ow (m := 3) 0 rfl rfl) rfl) rfl ?_
          refine Ops.s (Stp.call rfl Try.call108 (lks rfl) (fun E' le hat => styleRight_ok E' _ _ _) ?_) rfl
          rintro _ _ ⟨rfl, rfl⟩
          refine Ops.u (Dtu.not (lk rfl)) rfl ?_
          refine Ops.nil ?_
          refine Then.next ?_
          refine Body.cond (lk rfl) (fun c66 => ?_) (fun c66 => ?_)
          · refine Body.seq ?_
            refine Body.region ?_
            refine Ops.u (Dtu.build ty53 pl53 (lkp rfl) rfl rfl) rfl ?_
            refine Ops.e (Stp.store 2 Try.sizeOf53 (lk rfl) (lk rfl) rfl rfl rfl rfl rfl rfl rfl ?_)
            refine Ops.u (Dtu.asg (lk rfl)) rfl ?_
            refine Ops.u (Dtu.asg (lk rfl)) rfl ?_
            refine Ops.nil ?_
            refine Then.next ?_
            refine Body.ret ?_
            refine Then.ret ?_
            refine ⟨.inr rfl, _, Loads.agg Try.isAgg53 Try.sizeOf53 (Rds.ow (m := 3) 2 rfl rfl) rfl, _, pk [] rfl, ?_, rfl⟩
            rw [hst, if_neg (by omega), if_neg (by omega), if_neg (fun hh => by have hh' : okSty (min (getS bs ((q : Int) + 1)).1 2147483648) (min (getS bs (getS bs ((q : Int) + 1)).2.1).1 2147483648) = true := hh; simp [hh'] at c66)]; rfl
          · refine Body.skip ?_
            refine Then.next ?_
            refine Body.seq ?_
            refine Body.region ?_
            refine Ops.d (Det.lda Try.isAgg53 Try.sizeOf53 (lk rfl) (Rds.ow (m := 3) 0 rfl rfl) rfl) rfl ?_
            refine Ops.u (Dtu.mv (lk rfl)) rfl ?_
            refine Ops.e (Stp.store 2 Try.sizeOf53 (lk rfl) (lk rfl) rfl rfl rfl rfl rfl rfl rfl ?_)
            refine Ops.u (Dtu.asg (lk rfl)) rfl ?_
            refine Ops.u (Dtu.asg (lk rfl)) rfl ?_
            refine Ops.nil ?_
            refine Then.next ?_
            refine Body.ret ?_
            refine ⟨.inr rfl, _, Loads.agg Try.isAgg53 Try.sizeOf53 (Rds.ow (m := 3) 2 rfl rfl) rfl, _, pk [] rfl, ?_, rfl⟩
            rw [hst, if_neg (by omega), if_neg (by omega), if_pos (by simpa [okSty] using c66)]; rfl
/-- a cell, the place behind it, an error -/
def cellR (bs : List Int) (at_ : Int) : Cell × Int × Int :=
  let s := styleR bs at_
  if s.2.2 ≠ 0 then (⟨0, 0, 0, 0⟩, 0, s.2.2)
  else
    let g := getS bs s.2.1
    if g.2.2 ≠ 0 then (⟨0, 0, 0, 0⟩, 0, g.2.2)
    else
      let c : Cell := ⟨min g.1 1114112, s.1.1, s.1.2.1, s.1.2.2⟩
      if c.ok then (c, g.2.1, 0) else (⟨0, 0, 0, 0⟩, 0, 3)
theorem getCell_ok (E : Env) (b : Value) (bs : List Int) (p : Int) (h : Sl E [] 1 b bs.length (bs.map (.int .u8))) (hb : Byt bs) : Does Try.prog 34 #[b, .int .i64 p] E [] fun r H' =>
    r = .tuple #[.agg (cellR bs p).1.enc.toArray, .int .i64 (cellR bs p).2.1, .int .i64 (cellR bs p).2.2] ∧ H' = [] := by
  refine Does.pure h.len fun hlen => ?_
  have hst : cellR bs p = (if (styleR bs p).2.2 ≠ 0 then (⟨0, 0, 0, 0⟩, 0, (styleR bs p).2.2) else if (getS bs (styleR bs p).2.1).2.2 ≠ 0 then (⟨0, 0, 0, 0⟩, 0, (getS bs (styleR bs p).2.1).2.2)
    else if (Cell.ok ⟨min (getS bs (styleR bs p).2.1).1 1114112, (styleR bs p).1.1, (styleR bs p).1.2.1, (styleR bs p).1.2.2⟩) then (⟨min (getS bs (styleR bs p).2.1).1 1114112, (styleR bs p).1.1, (styleR bs p).1.2.1, (styleR bs p).1.2.2⟩, (getS bs (styleR bs p).2.1).2.1, 0) else (⟨0, 0, 0, 0⟩, 0, 3)) := rfl
  have a1 := getS_bound bs hb (styleR bs p).2.1
  refine Does.go (args := [b, .int .i64 p]) _ _ Try.func34 rfl Try.ntmps34 rfl rfl ?_
  refine Body.seq ?_
  refine Body.region ?_
  refine Ops.s (Stp.alloc ty55 (fun b4 => ?_)) rfl
  refine Ops.u (Dtu.asg (lk rfl)) rfl ?_
  refine Ops.u (Dtu.asg (lk rfl)) rfl ?_
  refine Ops.nil ?_
  refine Then.next ?_
  refine Body.seq ?_
  refine Body.region ?_
  refine Ops.u (Dtu.mv (lk rfl)) rfl ?_
  refine Ops.u (Dtu.mv (lk rfl)) rfl ?_
  refine Ops.s (Stp.call rfl Try.call78 (lks rfl) (fun E' le hat => styleRead_ok E' _ _ _ (Sl.mono (by assumption) le) (by assumption)) ?_) rfl
  rintro _ _ ⟨rfl, rfl⟩
  refine Ops.u (Dtu.mv (lk rfl)) rfl ?_
  refine Ops.u (Dtu.ext (lk rfl) rfl) rfl ?_
  refine Ops.u (Dtu.ext (lk rfl) rfl) rfl ?_
  refine Ops.u (Dtu.ext (lk rfl) rfl) rfl ?_
  refine Ops.s (Stp.alloc ty53 (fun b7 => ?_)) rfl
  refine Ops.e (Stp.store 0 Try.sizeOf53 (lk rfl) (lk rfl) rfl rfl rfl rfl rfl rfl rfl ?_)
  refine Ops.u (Dtu.asg (lk rfl)) rfl ?_
  refine Ops.u (Dtu.asg (lk rfl)) rfl ?_
  refine Ops.nil ?_
  refine Then.next ?_
  refine Body.seq ?_
  refine Body.seq ?_
  refine Body.region ?_
  refine Ops.u (Dtu.mv (lk rfl)) rfl ?_
  refine Ops.u (Dtu.neq (lk rfl) (lk rfl)) rfl ?_
  refine Ops.nil ?_
  refine Then.next ?_
  refine Body.condP (lk rfl) (fun c20 => ?_) (fun c20 => ?_)
  · refine Body.seq ?_
    refine Body.region ?_
    refine Ops.u (Dtu.build ty55 pl55 (lkp rfl) rfl rfl) rfl ?_
    refine Ops.u (Dtu.mv (lk rfl)) rfl ?_
    refine Ops.e (Stp.store 1 Try.sizeOf55 (lk rfl) (lk rfl) rfl rfl rfl rfl rfl rfl rfl ?_)
    refine Ops.u (Dtu.asg (lk rfl)) rfl ?_
    refine Ops.u (Dtu.asg (lk rfl)) rfl ?_
    refine Ops.nil ?_
    refine Then.next ?_
    refine Body.ret ?_
    refine Then.ret ?_
    refine ⟨.inr rfl, _, Loads.agg Try.isAgg55 Try.sizeOf55 (Rds.ow (m := 4) 1 rfl rfl) rfl, _, pk [] rfl, ?_, rfl⟩
    rw [hst, if_pos c20]; rfl
  · refine Body.skip ?_
    refine Then.next ?_
    refine Body.seq ?_
    refine Body.region ?_
    refine Ops.u (Dtu.mv (lk rfl)) rfl ?_
    refine Ops.u (Dtu.mv (lk rfl)) rfl ?_
    refine Ops.s (Stp.call rfl Try.call74 (lks rfl) (fun E' le hat => get_ok E' _ _ _ (Sl.mono (by assumption) le) (by assumption)) ?_) rfl
    rintro _ _ ⟨rfl, rfl⟩
    refine Ops.u (Dtu.mv (lk rfl)) rfl ?_
    refine Ops.u (Dtu.ext (lk rfl) rfl) rfl ?_
    refine Ops.u (Dtu.ext (lk rfl) rfl) rfl ?_
    refine Ops.u (Dtu.ext (lk rfl) rfl) rfl ?_
    refine Ops.u (Dtu.asg (lk rfl)) rfl ?_
    refine Ops.u (Dtu.asg (lk rfl)) rfl ?_
    refine Ops.u (Dtu.asg (lk rfl)) rfl ?_
    refine Ops.nil ?_
    refine Then.next ?_
    refine Body.seq ?_
    refine Body.seq ?_
    refine Body.region ?_
    refine Ops.u (Dtu.mv (lk rfl)) rfl ?_
    refine Ops.u (Dtu.neq (lk rfl) (lk rfl)) rfl ?_
    refine Ops.nil ?_
    refine Then.next ?_
    refine Body.condP (lk rfl) (fun c31 => ?_) (fun c31 => ?_)
    · refine Body.seq ?_
      refine Body.region ?_
      refine Ops.u (Dtu.build ty55 pl55 (lkp rfl) rfl rfl) rfl ?_
      refine Ops.u (Dtu.mv (lk rfl)) rfl ?_
      refine Ops.e (Stp.store 1 Try.sizeOf55 (lk rfl) (lk rfl) rfl rfl rfl rfl rfl rfl rfl ?_)
      refine Ops.u (Dtu.asg (lk rfl)) rfl ?_
      refine Ops.u (Dtu.asg (lk rfl)) rfl ?_
      refine Ops.nil ?_
      refine Then.next ?_
      refine Body.ret ?_
      refine Then.ret ?_
      refine ⟨.inr rfl, _, Loads.agg Try.isAgg55 Try.sizeOf55 (Rds.ow (m := 4) 1 rfl rfl) rfl, _, pk [] rfl, ?_, rfl⟩
      rw [hst, if_neg (by omega), if_pos c31]; rfl
    · refine Body.skip ?_
      refine Then.next ?_
      refine Body.seq ?_
      refine Body.region ?_
      refine Ops.u (Dtu.mv (lk rfl)) rfl ?_
      refine Ops.u (Dtu.min (lk rfl) (lk rfl)) rfl ?_
      refine Ops.u (Dtu.cvt Try.underlying75 Try.underlying21 (lk rfl) (w32 (by omega) (by omega))) rfl ?_
      refine Ops.d (Det.lda Try.isAgg53 Try.sizeOf53 (lk rfl) (Rds.ow (m := 3) 0 rfl rfl) rfl) rfl ?_
      refine Ops.u (Dtu.build ty55 pl55 (lkp rfl) rfl rfl) rfl ?_
      refine Ops.s (Stp.alloc ty55 (fun b11 => ?_)) rfl
      refine Ops.e (Stp.store 0 Try.sizeOf55 (lk rfl) (lk rfl) rfl rfl rfl rfl rfl rfl rfl ?_)
      refine Ops.nil ?_
      refine Then.next ?_
      refine Body.seq ?_
      refine Body.seq ?_
      refine Body.region ?_
      refine Ops.d (Det.lda Try.isAgg55 Try.sizeOf55 (lk rfl) (Rds.ow (m := 4) 0 rfl rfl) rfl) rfl ?_
      refine Ops.s (Stp.call rfl Try.call70 (lks rfl) (fun E' le hat => isCell_ok E' _ _ _ _) ?_) rfl
      rintro _ _ ⟨rfl, rfl⟩
      refine Ops.u (Dtu.not (lk rfl)) rfl ?_
      refine Ops.nil ?_
      refine Then.next ?_
      refine Body.cond (lk rfl) (fun c41 => ?_) (fun c41 => ?_)
      · refine Body.seq ?_
        refine Body.region ?_
        refine Ops.u (Dtu.build ty55 pl55 (lkp rfl) rfl rfl) rfl ?_
        refine Ops.e (Stp.store 2 Try.sizeOf55 (lk rfl) (lk rfl) rfl rfl rfl rfl rfl rfl rfl ?_)
        refine Ops.u (Dtu.asg (lk rfl)) rfl ?_
        refine Ops.u (Dtu.asg (lk rfl)) rfl ?_
        refine Ops.nil ?_
        refine Then.next ?_
        refine Body.ret ?_
        refine Then.ret ?_
        refine ⟨.inr rfl, _, Loads.agg Try.isAgg55 Try.sizeOf55 (Rds.ow (m := 4) 2 rfl rfl) rfl, _, pk [] rfl, ?_, rfl⟩
        rw [hst, if_neg (by omega), if_neg (by omega), if_neg (by simpa using c41)]; rfl
      · refine Body.skip ?_
        refine Then.next ?_
        refine Body.seq ?_
        refine Body.region ?_
        refine Ops.d (Det.lda Try.isAgg55 Try.sizeOf55 (lk rfl) (Rds.ow (m := 4) 0 rfl rfl) rfl) rfl ?_
        refine Ops.u (Dtu.mv (lk rfl)) rfl ?_
        refine Ops.e (Stp.store 2 Try.sizeOf55 (lk rfl) (lk rfl) rfl rfl rfl rfl rfl rfl rfl ?_)
        refine Ops.u (Dtu.asg (lk rfl)) rfl ?_
        refine Ops.u (Dtu.asg (lk rfl)) rfl ?_
        refine Ops.nil ?_
        refine Then.next ?_
        refine Body.ret ?_
        refine ⟨.inr rfl, _, Loads.agg Try.isAgg55 Try.sizeOf55 (Rds.ow (m := 4) 2 rfl rfl) rfl, _, pk [] rfl, ?_, rfl⟩
        rw [hst, if_neg (by omega), if_neg (by omega), if_pos (by simpa using c41)]; rfl
end Go.Proofs.Ytijjjdljdjnbaaa
