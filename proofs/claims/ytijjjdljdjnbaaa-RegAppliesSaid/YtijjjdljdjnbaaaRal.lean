/- Ql: OpenC, CellsW, OpenD, PatN, RegJ, RegK, RegL, RegM, RegN, RegO, RegP, OpenK. -/
import Derived.Test.YtijjjdljdjnbaaaRaa
import Derived.Test.YtijjjdljdjnbaaaRab
import Derived.Test.YtijjjdljdjnbaaaRac
import Derived.Test.YtijjjdljdjnbaaaRad
import Derived.Test.YtijjjdljdjnbaaaRae
import Derived.Test.YtijjjdljdjnbaaaRaf
import Derived.Test.YtijjjdljdjnbaaaRag
import Derived.Test.YtijjjdljdjnbaaaRah
import Derived.Test.YtijjjdljdjnbaaaRai
import Derived.Test.YtijjjdljdjnbaaaRaj
import Derived.Test.YtijjjdljdjnbaaaRak
section
/- A cell as an argument. -/
namespace Go.Proofs.Ytijjjdljdjnbaaa
set_option maxRecDepth 100000
set_option linter.unusedVariables false
set_option linter.unusedSimpArgs false
open Go.Sx Go.ChangeShapes Go.RowKit Go.WideShapes

end Go.Proofs.Ytijjjdljdjnbaaa
end
section
/- ViewCells: what it computes. -/
namespace Go.Proofs.Ytijjjdljdjnbaaa
set_option maxRecDepth 100000
set_option linter.unusedVariables false
set_option linter.unusedSimpArgs false
open Go.Sx

end Go.Proofs.Ytijjjdljdjnbaaa
end
section
/- Views and bytes as arguments, for the document's walk. -/
namespace Go.Proofs.Ytijjjdljdjnbaaa
open Go.Sx

theorem Cell.In32.Cols {c : Cell} (h : c.In32) : c.Cols := ⟨h.1.2.2.1, h.1.2.2.2.1, h.1.2.2.2.2.1, h.1.2.2.2.2.2⟩
end Go.Proofs.Ytijjjdljdjnbaaa
end
section
/- PatchApplies: what it computes. -/
namespace Go.Proofs.Ytijjjdljdjnbaaa
set_option maxRecDepth 100000
set_option linter.unusedVariables false
set_option linter.unusedSimpArgs false
open Go.Sx

/-- what Apply tells: a view, an error; is there one? -/
def avV (a : View) (bs : List Int) : View := (applyV a bs).getD View.none
def avK (a : View) (bs : List Int) : Bool := (applyV a bs).isSome
theorem rapply_any (E : Env) (a : View) (s b : Value) (bs : List Int) (ha : a.rhas E [] s) (h : Sl E [] 1 b bs.length (bs.map (.int .u8))) (hb : Byt bs) (hmax : bs.length ≤ 100000) (hfl : ∀ c ∈ a.cells, c.Fl) (hcs : ∀ c ∈ a.cells, c.Cols) : Does Try.prog 21 #[a.val s, b] E [] fun r H' => ∃ (z1 : Option Addr) (z2 z3 : Nat), r = .tuple #[(avV a bs).val (.slice z1 z2 z3), .bool (avK a bs)] ∧ H' = [osl 65 11 (.slice z1 z2 z3) (avV a bs).cells.length ((avV a bs).cells.flatMap Cell.renc)] := by
  have h1 := rapply_ok E a s b bs ha h hb hmax hfl hcs
  cases hr : applyV a bs with
  | some v =>
    have e1 : avV a bs = v := by simp [avV, hr]
    have e2 : avK a bs = true := by simp [avK, hr]
    rw [e1, e2]
    rw [hr] at h1
    intro w s0
    refine (h1 w s0).mono ?_
    rintro e w' ⟨r, H', he, ⟨s', rfl, rfl⟩, s1⟩
    obtain ⟨z1, m, z3, rfl⟩ := Sl.isSl (Sl.osl (H := [osl 65 11 s' v.cells.length (v.cells.flatMap Cell.renc)]) 0 rfl) w' s1
    exact ⟨_, _, he, ⟨z1, m, z3, rfl, rfl⟩, s1⟩
  | none =>
    have e1 : avV a bs = View.none := by simp [avV, hr]
    have e2 : avK a bs = false := by simp [avK, hr]
    rw [e1, e2]
    rw [hr] at h1
    intro w s0
    refine (h1 w s0).mono ?_
    rintro e w' ⟨r, H', he, ⟨rfl, rfl⟩, s1⟩
    exact ⟨_, _, he, ⟨none, 0, 0, rfl, rfl⟩, osl_nil s1⟩
theorem avV_fl {a : View} {bs : List Int} (hb : Byt bs) (hfl : ∀ c ∈ a.cells, c.Fl) : ∀ c ∈ (avV a bs).cells, c.Fl := by
  unfold avV applyV
  cases hr : runsP bs with
  | none => simp [View.none]
  | some rs =>
    dsimp only
    split
    · simp [View.none]
    · split
      · exact applyL_fl rs _ 0 (baseC_fl hfl _ _) (runsP_fine hb hr)
      · simp [View.none]
end Go.Proofs.Ytijjjdljdjnbaaa
end
section
/- The document's states: the fields that bytes have. -/
namespace Go.Proofs.Ytijjjdljdjnbaaa
set_option maxRecDepth 100000
set_option linter.unusedVariables false
set_option linter.unusedSimpArgs false
open Go.Sx

set_option maxHeartbeats 3200000 in
theorem rfields_ok (E0 E : Env) (le0 : E0.Le E) (b : Value) (bs : List Int) (h0 : Sl E0 [] 1 b bs.length (bs.map (.int .u8))) (hb : Byt bs) (hmax : bs.length ≤ 100000) : Does Try.prog 90 #[b] E [] fun r H' =>
    match fieldsP bs with
    | .inr rs => ∃ (z1 : Option Addr) (z2 z3 : Nat) (L : List Fld), r = .tuple #[.slice z1 z2 z3, .int .i64 0] ∧ H' = [osl 152 2 (.slice z1 z2 z3) L.length (L.flatMap Fld.enc)] ∧ (∀ f ∈ L, f.has E0 []) ∧ L.map Fld.tf = rs
    | .inl e => r = .tuple #[.slice none 0 0, .int .i64 e] ∧ H' = [] := by
  have h := Sl.mono h0 le0
  refine Does.pure h.len fun hlen => ?_
  refine Does.go (args := [b]) _ _ Try.func90 rfl Try.ntmps90 rfl rfl ?_
  refine Body.seq ?_
  refine Body.region ?_
  refine Ops.u (Dtu.asg (lk rfl)) rfl ?_
  refine Ops.u (Dtu.asg (lk rfl)) rfl ?_
  refine Ops.nil ?_
  refine Then.next ?_
  refine Body.seq ?_
  refine Body.region ?_
  refine Ops.u (Dtu.asg (lk rfl)) rfl ?_
  refine Ops.nil ?_
  refine Then.next ?_
  refine Body.seq ?_
  refine Body.region ?_
  refine Ops.u (Dtu.asg (lk rfl)) rfl ?_
  refine Ops.nil ?_
  refine Then.next ?_
  refine Body.seq ?_
  refine Body.block ?_
  refine Body.conseq (H' := [osl 152 2 (.slice none 0 0) 0 []]) (fun w s => osl_nil s) ?_
  refine Body.loopF (γ := Nat × List Fld × Nat × Value) rfl (fun g => [(5, .int .i64 g.2.2.1), (4, g.2.2.2)]) (fun g => [osl 152 2 g.2.2.2 g.2.1.length (g.2.1.flatMap Fld.enc)])
    (fun g => readFs bs g.1 (g.2.1.map Fld.tf) g.2.2.1 = fieldsP bs ∧ g.2.2.1 ≤ bs.length ∧ bs.length - g.2.2.1 < g.1 ∧ g.2.1.length ≤ g.2.2.1 ∧ g.2.1.length ≤ 128 ∧ ∀ f ∈ g.2.1, f.has E0 []) (fun g => g.1) (bs.length + 1, [], 0, .slice none 0 0) ⟨rfl, by simp, by simp, by simp, by simp, by simp⟩ ⟨rfl, rfl, trivial⟩ rfl ?_
  rintro ⟨k, L, a, O⟩ u ⟨hr, ha1, hk, hn, hn2, hall⟩
  dsimp only at hr ha1 hk hn hn2 hall ⊢
  refine Body.pure (Sl.isSl (Sl.osl 0 rfl)) fun hO => ?_
  obtain ⟨z1, z2, z3, rfl⟩ := hO
  obtain ⟨k, rfl⟩ : ∃ k', k = k' + 1 := ⟨k - 1, by omega⟩
  have g1 := getS_bound bs hb (a + 1)
  have g2 := getS_next bs (a + 1)
  rw [readFs] at hr
  refine Body.seq ?_
  refine Body.seq ?_
  refine Body.region ?_
  refine Ops.u (Dtu.mv (lk rfl)) rfl ?_
  refine Ops.u (Dtu.mv (lk rfl)) rfl ?_
  refine Ops.u (Dtu.lenS Try.underlying32 (Sl.up h) (lk rfl)) rfl ?_
  refine Ops.u (Dtu.lss (lk rfl) (lk rfl)) rfl ?_
  refine Ops.nil ?_
  refine Then.next ?_
  refine Body.condP (lk rfl) (fun c12 => ?_) (fun c12 => ?_)
  · rw [if_pos (by omega)] at hr
    refine Body.skip ?_
    refine Then.next ?_
    refine Body.block ?_
    refine Body.seq ?_
    refine Body.seq ?_
    refine Body.region ?_
    refine Ops.u (Dtu.mv (lk rfl)) rfl ?_
    refine Ops.u (Dtu.lenS Try.underlying149 (Sl.osl 0 rfl) (lk rfl)) rfl ?_
    refine Ops.u (Dtu.geq (lk rfl) (lk rfl)) rfl ?_
    refine Ops.nil ?_
    refine Then.next ?_
    refine Body.condP (lk rfl) (fun c15 => ?_) (fun c15 => ?_)
    · rw [if_pos (by simp; omega)] at hr
      refine Body.seq ?_
      refine Body.region ?_
      refine Ops.u (Dtu.asg (lk rfl)) rfl ?_
      refine Ops.u (Dtu.asg (lk rfl)) rfl ?_
      refine Ops.nil ?_
      refine Then.next ?_
      refine Body.ret ?_
      refine Then.ret ?_
      refine Blk.ret ?_
      refine Round.ret ?_
      refine Blk.ret ?_
      refine Then.ret ?_
      rw [← hr]
      exact ⟨.inr rfl, _, pk [] rfl, rfl, rfl⟩
    · rw [if_neg (by simp; omega)] at hr
      refine Body.skip ?_
      refine Then.next ?_
      refine Body.seq ?_
      refine Body.region ?_
      refine Ops.u (Dtu.mv (lk rfl)) rfl ?_
      refine Ops.u (Dtu.mv (lk rfl)) rfl ?_
      refine Ops.u (Dtu.add (lk rfl) (lk rfl) (w64 (by omega) (by omega))) rfl ?_
      refine Ops.s (Stp.call rfl Try.call66 (lks rfl) (fun E' le hat => rget_ok E' _ _ _ (Sl.mono (by assumption) le) (by assumption)) ?_) rfl
      rintro _ _ ⟨rfl, rfl⟩
      refine Ops.u (Dtu.mv (lk rfl)) rfl ?_
      refine Ops.u (Dtu.ext (lk rfl) rfl) rfl ?_
      refine Ops.u (Dtu.ext (lk rfl) rfl) rfl ?_
      refine Ops.u (Dtu.ext (lk rfl) rfl) rfl ?_
      refine Ops.u (Dtu.asg (lk rfl)) rfl ?_
      refine Ops.u (Dtu.asg (lk rfl)) rfl ?_
      refine Ops.u (Dtu.asg (lk rfl)) rfl ?_
      refine Ops.nil ?_
      refine Then.next ?_
      refine Body.seq ?_
      refine Body.seq ?_
      refine Body.region ?_
      refine Ops.u (Dtu.mv (lk rfl)) rfl ?_
      refine Ops.u (Dtu.neq (lk rfl) (lk rfl)) rfl ?_
      refine Ops.nil ?_
      refine Then.next ?_
      refine Body.condP (lk rfl) (fun c25 => ?_) (fun c25 => ?_)
      · rw [if_pos (by assumption)] at hr
        refine Body.seq ?_
        refine Body.region ?_
        refine Ops.u (Dtu.mv (lk rfl)) rfl ?_
        refine Ops.u (Dtu.asg (lk rfl)) rfl ?_
        refine Ops.u (Dtu.asg (lk rfl)) rfl ?_
        refine Ops.nil ?_
        refine Then.next ?_
        refine Body.ret ?_
        refine Then.ret ?_
        refine Blk.ret ?_
        refine Round.ret ?_
        refine Blk.ret ?_
        refine Then.ret ?_
        rw [← hr]
        exact ⟨.inr rfl, _, pk [] rfl, rfl, rfl⟩
      · rw [if_neg (by assumption)] at hr
        have e1 := g2 (by omega)
        refine Body.skip ?_
        refine Then.next ?_
        refine Body.seq ?_
        refine Body.seq ?_
        refine Body.region ?_
        refine Ops.u (Dtu.mv (lk rfl)) rfl ?_
        refine Ops.u (Dtu.gtr (lk rfl) (lk rfl)) rfl ?_
        refine Ops.nil ?_
        refine Then.next ?_
        refine Body.condP (lk rfl) (fun c28 => ?_) (fun c28 => ?_)
        · rw [if_pos (by omega)] at hr
          refine Body.seq ?_
          refine Body.region ?_
          refine Ops.u (Dtu.asg (lk rfl)) rfl ?_
          refine Ops.u (Dtu.asg (lk rfl)) rfl ?_
          refine Ops.nil ?_
          refine Then.next ?_
          refine Body.ret ?_
          refine Then.ret ?_
          refine Blk.ret ?_
          refine Round.ret ?_
          refine Blk.ret ?_
          refine Then.ret ?_
          rw [← hr]
          exact ⟨.inr rfl, _, pk [] rfl, rfl, rfl⟩
        · rw [if_neg (by omega)] at hr
          refine Body.skip ?_
          refine Then.next ?_
          refine Body.seq ?_
          refine Body.seq ?_
          refine Body.region ?_
          refine Ops.u (Dtu.mv (lk rfl)) rfl ?_
          refine Ops.u (Dtu.mv (lk rfl)) rfl ?_
          refine Ops.u (Dtu.cvt Try.underlying75 Try.underlying3 (lk rfl) (w64 (by omega) (by omega))) rfl ?_
          refine Ops.u (Dtu.add (lk rfl) (lk rfl) (w64 (by omega) (by omega))) rfl ?_
          refine Ops.u (Dtu.mv (lk rfl)) rfl ?_
          refine Ops.u (Dtu.lenS Try.underlying32 (Sl.up h) (lk rfl)) rfl ?_
          refine Ops.u (Dtu.gtr (lk rfl) (lk rfl)) rfl ?_
          refine Ops.nil ?_
          refine Then.next ?_
          refine Body.condP (lk rfl) (fun c35 => ?_) (fun c35 => ?_)
          · rw [if_pos (by omega)] at hr
            refine Body.seq ?_
            refine Body.region ?_
            refine Ops.u (Dtu.asg (lk rfl)) rfl ?_
            refine Ops.u (Dtu.asg (lk rfl)) rfl ?_
            refine Ops.nil ?_
            refine Then.next ?_
            refine Body.ret ?_
            refine Then.ret ?_
            refine Blk.ret ?_
            refine Round.ret ?_
            refine Blk.ret ?_
            refine Then.ret ?_
            rw [← hr]
            exact ⟨.inr rfl, _, pk [] rfl, rfl, rfl⟩
          · rw [if_neg (by omega)] at hr
            obtain ⟨q, hq⟩ := Int.eq_ofNat_of_zero_le g1.1
            obtain ⟨p, hp⟩ := Int.eq_ofNat_of_zero_le (show 0 ≤ (getS bs (a + 1)).2.1 by omega)
            rw [hq, hp, Int.toNat_natCast, Int.toNat_natCast] at hr
            have i1 : (q : Int) ≤ 16384 := by omega
            have i2 : p + q ≤ bs.length := by omega
            have i3 : a + 1 < p := by omega
            rw [hq, hp]
            have hsub0 : Sl E0 [] 1 (subSl b 1 p (p + q) (capOf b)) q (((bs.drop p).take q).map (.int .u8)) := by
              have := Sl.subM h0 p (p + q) (by omega) i2; rwa [Nat.add_sub_cancel_left] at this
            have hsub := Sl.mono hsub0 le0
            have hql : ((bs.drop p).take q).length = q := by simp; omega
            refine Body.skip ?_
            refine Then.next ?_
            refine Body.seq ?_
            refine Body.draw mixed ?_
            refine AB.u 0 rfl (by decide +kernel) (Dtu.mv (lk rfl)) rfl ?_
            refine AB.u 1 rfl (by decide +kernel) (Dtu.mv (lk rfl)) rfl ?_
            refine AB.u 2 rfl (by decide +kernel) (Dtu.mv (lk rfl)) rfl ?_
            refine AB.u 3 rfl (by decide +kernel) (Dtu.ix (i := (a)) Try.underlying32 Try.sizeOf5 (Sl.up h) (lk rfl) (lk rfl) (by omega) (by omega)) rfl ?_
            refine AB.d 4 rfl (by decide +kernel) rfl (Det.ld Try.isAgg5 (lk rfl) (Rd.sl (Sl.up h) (gm (by omega)))) rfl ?_
            refine AB.u 5 rfl (by decide +kernel) (Dtu.mv (lk rfl)) rfl ?_
            refine AB.u 6 rfl (by decide +kernel) (Dtu.mv (lk rfl)) rfl ?_
            refine AB.u 7 rfl (by decide +kernel) (Dtu.mv (lk rfl)) rfl ?_
            refine AB.u 8 rfl (by decide +kernel) (Dtu.mv (lk rfl)) rfl ?_
            refine AB.u 9 rfl (by decide +kernel) (Dtu.cvt Try.underlying75 Try.underlying3 (lk rfl) (w64 (by omega) (by omega))) rfl ?_
            refine AB.u 10 rfl (by decide +kernel) (Dtu.add (lk rfl) (lk rfl) (w64 (by omega) (by omega))) rfl ?_
            refine AB.u 11 rfl (by decide +kernel) (Dtu.slLH (p) (p + q) Try.underlying32 Try.sizeOf5 (Sl.up h) (lk rfl) (lk rfl) (lk rfl) (by omega) (by omega) (by omega) (by omega)) rfl ?_
            refine AB.pure (Sl.isSl (Sl.up hsub)) fun hs => ?_
            obtain ⟨y1, y2, y3, hy⟩ := hs
            rw [hy] at hsub hsub0
            rw [hy]
            refine AB.u 12 rfl (by decide +kernel) (Dtu.build ty152 pl152 (lkp rfl) rfl rfl) rfl ?_
            refine AB.s 13 rfl (by decide +kernel) (by decide +kernel) (Stp.buildSliceO Try.underlying149 ty152 (by decide) (by decide) (lkp rfl) rfl rfl rfl (by decide) (fun v49 => ?_)) rfl
            refine AB.s 14 rfl (by decide +kernel) (by decide +kernel) (Stp.append 1 Try.underlying149 ty152 rfl rfl (lk rfl) (lk rfl) (Sl.osl 0 rfl) (by first | rfl | exact all_map (fun _ => rfl) _ | exact all_flat (fun _ => rfl) _) (by omega) (by omega) (fun v50 => ?_)) rfl
            refine AB.u 15 rfl (by decide +kernel) (Dtu.asg (lk rfl)) rfl ?_
            refine AB.done (by decide +kernel) ?_
            refine Then.next ?_
            refine Body.region ?_
            refine Ops.u (Dtu.mv (lk rfl)) rfl ?_
            refine Ops.u (Dtu.mv (lk rfl)) rfl ?_
            refine Ops.u (Dtu.cvt Try.underlying75 Try.underlying3 (lk rfl) (w64 (by omega) (by omega))) rfl ?_
            refine Ops.u (Dtu.add (lk rfl) (lk rfl) (w64 (by omega) (by omega))) rfl ?_
            refine Ops.u (Dtu.asg (lk rfl)) rfl ?_
            refine Ops.nil ?_
            refine Blk.norm ?_
            refine Round.goK [1] (k, L ++ [⟨bs[a]!, y1, y2, y3, (bs.drop p).take q⟩], p + q, v50) rfl rfl rfl ⟨int_eq (by dsimp only; omega), rfl, trivial⟩ rfl ?_ ⟨?_, by dsimp only; omega, by dsimp only; omega, by simp; omega, by simp; omega, ?_⟩ (by simp)
            · simp [Fld.enc]
            · dsimp only
              rw [← hr]; simp [Fld.tf]
            · dsimp only
              intro f hf
              rcases List.mem_append.1 hf with hf | hf
              · exact hall f hf
              · rw [List.mem_singleton.1 hf]
                show Sl E0 [] 1 _ ((bs.drop p).take q).length _
                rw [hql]; exact hsub0
  · rw [if_neg (by omega)] at hr
    refine Body.exit ?_
    refine Then.exit ?_
    refine Round.exit ?_
    refine Blk.here ?_
    refine Then.next ?_
    refine Body.seq ?_
    refine Body.region ?_
    refine Ops.u (Dtu.mv (lk rfl)) rfl ?_
    refine Ops.u (Dtu.asg (lk rfl)) rfl ?_
    refine Ops.u (Dtu.asg (lk rfl)) rfl ?_
    refine Ops.nil ?_
    refine Then.next ?_
    refine Body.ret ?_
    rw [← hr]
    exact ⟨.inr rfl, _, pk [0] rfl, z1, z2, z3, L, rfl, rfl, hall, rfl⟩
end Go.Proofs.Ytijjjdljdjnbaaa
end
section
/- The document's states: of the program's ones; which may be; which are the same; changes. -/
namespace Go.Proofs.Ytijjjdljdjnbaaa
set_option maxRecDepth 100000
set_option linter.unusedVariables false
set_option linter.unusedSimpArgs false
open Go.Sx

theorem as22_ok (E : Env) (x : Stt) (s : Value) (h : x.v.has E [] s) (hf : ∀ c ∈ x.v.cells, c.Fl) (hn : x.v.cells.length ≤ 1000) : Does Try.prog 40 #[x.val s] E [] fun r H' => ∃ (ta : Option Addr) (tm tc : Nat), r = x.val (.slice ta tm tc) ∧ H' = [osl 65 11 (.slice ta tm tc) x.v.cells.length (x.v.cells.flatMap Cell.renc)] := by
  unfold View.has at h
  refine Does.pure h.isSl fun hs => ?_
  obtain ⟨a, m, k, rfl⟩ := hs
  obtain ⟨⟨r1, c1, l1, o1, q1, v1⟩, t1, p1, n1, b1⟩ := x
  dsimp only at h hf hn
  refine Does.go (args := [Stt.val ⟨⟨r1, c1, l1, o1, q1, v1⟩, t1, p1, n1, b1⟩ (.slice a m k)]) _ _ Try.func40 rfl Try.ntmps40 rfl rfl ?_
  refine Body.seq ?_
  refine Body.region ?_
  refine Ops.s (Stp.box (lk rfl) rfl (fun b1 => ?_)) rfl
  refine Ops.s (Stp.alloc ty80 (fun b2 => ?_)) rfl
  refine Ops.nil ?_
  refine Then.next ?_
  refine Body.seq ?_
  refine Body.draw mixed ?_
  refine AB.u 0 rfl (by decide +kernel) (Dtu.fld fa77_0 (lk rfl)) rfl ?_
  refine AB.d 1 rfl (by decide +kernel) rfl (Det.lda Try.isAgg24 Try.sizeOf24 (lk rfl) (Rds.ow (m := 6) 1 rfl rfl) rfl) rfl ?_
  refine AB.u 3 rfl (by decide +kernel) (Dtu.fld fa77_1 (lk rfl)) rfl ?_
  refine AB.d 4 rfl (by decide +kernel) rfl (Det.ld Try.isAgg9 (lk rfl) (Rd.ow 1 rfl rfl)) rfl ?_
  refine AB.u 5 rfl (by decide +kernel) (Dtu.fld fa77_2 (lk rfl)) rfl ?_
  refine AB.d 6 rfl (by decide +kernel) rfl (Det.ld Try.isAgg9 (lk rfl) (Rd.ow 1 rfl rfl)) rfl ?_
  refine AB.u 7 rfl (by decide +kernel) (Dtu.fld fa77_3 (lk rfl)) rfl ?_
  refine AB.d 8 rfl (by decide +kernel) rfl (Det.ld Try.isAgg75 (lk rfl) (Rd.ow 1 rfl rfl)) rfl ?_
  refine AB.u 9 rfl (by decide +kernel) (Dtu.fld fa77_4 (lk rfl)) rfl ?_
  refine AB.d 10 rfl (by decide +kernel) rfl (Det.ld Try.isAgg75 (lk rfl) (Rd.ow 1 rfl rfl)) rfl ?_
  refine AB.s 2 rfl (by decide +kernel) (by decide +kernel) (Stp.call rfl Try.call16 (lks rfl) (fun E' le hat => as20_ok E' ⟨_, _, _, _, _, _⟩ _ (Sl.mono (by assumption) le) (by assumption) (by first | assumption | omega)) ?_) rfl
  rintro _ _ ⟨xa5, xm5, xc5, rfl, rfl⟩
  refine AB.u 11 rfl (by decide +kernel) (Dtu.build ty80 pl80 (lkp rfl) rfl rfl) rfl ?_
  refine AB.e 12 rfl (by decide +kernel) (by decide +kernel) (Stp.store 1 Try.sizeOf80 (lk rfl) (lk rfl) rfl rfl rfl rfl rfl rfl rfl ?_)
  refine AB.done (by decide +kernel) ?_
  refine Then.next ?_
  refine Body.ret ?_
  exact ⟨.inr rfl, _, Loads.agg Try.isAgg80 Try.sizeOf80 (Rds.ow (m := 10) 1 rfl rfl) rfl, _, pk [0] rfl, xa5, xm5, xc5, rfl, rfl⟩
theorem rright22_ok (E : Env) (x : Stt) (s : Value) (h : x.v.rhas E [] s) (hc : ∀ c ∈ x.v.cells, c.Cols) : Does Try.prog 43 #[x.val s] E [] fun r H' => r = .bool x.ok ∧ H' = [] := by
  unfold View.rhas at h
  refine Does.pure h.isSl fun hs => ?_
  obtain ⟨sa, sm, sc, rfl⟩ := hs
  refine Does.go (args := [x.val _]) _ _ Try.func43 rfl Try.ntmps43 rfl rfl ?_
  refine Body.seq ?_
  refine Body.region ?_
  refine Ops.s (Stp.box (lk rfl) rfl (fun b1 => ?_)) rfl
  refine Ops.u (Dtu.asg (lk rfl)) rfl ?_
  refine Ops.nil ?_
  refine Then.next ?_
  refine Body.seq ?_
  refine Body.region ?_
  refine Ops.u (Dtu.fld fa80_0 (lk rfl)) rfl ?_
  refine Ops.d (Det.lda Try.isAgg30 Try.sizeOf30 (lk rfl) (Rds.ow (m := 6) 0 rfl rfl) rfl) rfl ?_
  refine Ops.s (Stp.call rfl Try.call18 (lks rfl) (fun E' le hat => rright_ok E' ⟨_, _, _, _, _, _⟩ _ (Sl.mono (by assumption) le) (by assumption)) ?_) rfl
  rintro _ _ ⟨rfl, rfl⟩
  refine Ops.u (Dtu.mv (lk rfl)) rfl ?_
  refine Ops.dec 6 rfl (fun c6 => ?_) (fun c6 => ?_)
  · refine Ops.gu rfl rfl rfl (Dtu.fld fa80_1 (lk rfl)) rfl ?_
    refine Ops.gd rfl rfl rfl (Det.ld Try.isAgg9 (lk rfl) (Rd.ow 0 rfl rfl)) rfl ?_
    refine Ops.gu rfl rfl rfl (Dtu.lenStr Try.underlying9 (lk rfl)) rfl ?_
    refine Ops.gu rfl rfl rfl (Dtu.leq (lk rfl) (lk rfl)) rfl ?_
    refine Ops.u (Dtu.pickT (lk rfl) (lk rfl)) rfl ?_
    refine Ops.u (Dtu.mv (lk rfl)) rfl ?_
    refine Ops.decP 12 rfl (fun c12 => ?_) (fun c12 => ?_)
    · refine Ops.gu rfl rfl rfl (Dtu.fld fa80_2 (lk rfl)) rfl ?_
      refine Ops.gd rfl rfl rfl (Det.ld Try.isAgg9 (lk rfl) (Rd.ow 0 rfl rfl)) rfl ?_
      refine Ops.gu rfl rfl rfl (Dtu.lenStr Try.underlying9 (lk rfl)) rfl ?_
      refine Ops.gu rfl rfl rfl (Dtu.leq (lk rfl) (lk rfl)) rfl ?_
      refine Ops.u (Dtu.pickT (lk rfl) (lk rfl)) rfl ?_
      refine Ops.u (Dtu.mv (lk rfl)) rfl ?_
      refine Ops.decP 18 rfl (fun c18 => ?_) (fun c18 => ?_)
      · refine Ops.gu rfl rfl rfl (Dtu.fld fa80_3 (lk rfl)) rfl ?_
        refine Ops.gd rfl rfl rfl (Det.ld Try.isAgg75 (lk rfl) (Rd.ow 0 rfl rfl)) rfl ?_
        refine Ops.gu rfl rfl rfl (Dtu.leq (lk rfl) (lk rfl)) rfl ?_
        refine Ops.u (Dtu.pickT (lk rfl) (lk rfl)) rfl ?_
        refine Ops.u (Dtu.mv (lk rfl)) rfl ?_
        refine Ops.decP 23 rfl (fun c23 => ?_) (fun c23 => ?_)
        · refine Ops.gu rfl rfl rfl (Dtu.fld fa80_4 (lk rfl)) rfl ?_
          refine Ops.gd rfl rfl rfl (Det.ld Try.isAgg75 (lk rfl) (Rd.ow 0 rfl rfl)) rfl ?_
          refine Ops.gu rfl rfl rfl (Dtu.leq (lk rfl) (lk rfl)) rfl ?_
          refine Ops.u (Dtu.pickT (lk rfl) (lk rfl)) rfl ?_
          refine Ops.u (Dtu.asg (lk rfl)) rfl ?_
          refine Ops.nil ?_
          refine Then.next ?_
          refine Body.ret ?_
          (refine ⟨.inr rfl, _, pk [] rfl, bool_eq ?_, rfl⟩; show _ ↔ (View.ok ⟨x.v.rows, x.v.cols, x.v.cells, x.v.row, x.v.col, x.v.vis⟩ && decide _) = true; simp only [Bool.and_eq_true, decide_eq_true_eq, Bool.false_eq_true, Bool.true_eq_false, true_and, false_and, true_iff, false_iff, iff_true, iff_false, not_and, *] <;> first | omega | (intro _; omega) | simp | (constructor <;> intros <;> first | omega | (simp_all; omega)))
        · refine Ops.gn rfl rfl rfl rfl rfl ?_
          refine Ops.gn rfl rfl rfl rfl rfl ?_
          refine Ops.gn rfl rfl rfl rfl rfl ?_
          refine Ops.u (Dtu.pickF (lk rfl) (lk rfl)) rfl ?_
          refine Ops.u (Dtu.asg (lk rfl)) rfl ?_
          refine Ops.nil ?_
          refine Then.next ?_
          refine Body.ret ?_
          (refine ⟨.inr rfl, _, pk [] rfl, bool_eq ?_, rfl⟩; show _ ↔ (View.ok ⟨x.v.rows, x.v.cols, x.v.cells, x.v.row, x.v.col, x.v.vis⟩ && decide _) = true; simp only [Bool.and_eq_true, decide_eq_true_eq, Bool.false_eq_true, Bool.true_eq_false, true_and, false_and, true_iff, false_iff, iff_true, iff_false, not_and, *] <;> first | omega | (intro _; omega) | simp | (constructor <;> intros <;> first | omega | (simp_all; omega)))
      · refine Ops.gn rfl rfl rfl rfl rfl ?_
        refine Ops.gn rfl rfl rfl rfl rfl ?_
        refine Ops.gn rfl rfl rfl rfl rfl ?_
        refine Ops.u (Dtu.pickF (lk rfl) (lk rfl)) rfl ?_
        refine Ops.u (Dtu.mv (lk rfl)) rfl ?_
        refine Ops.gn rfl rfl rfl rfl rfl ?_
        refine Ops.gn rfl rfl rfl rfl rfl ?_
        refine Ops.gn rfl rfl rfl rfl rfl ?_
        refine Ops.u (Dtu.pickF (lk rfl) (lk rfl)) rfl ?_
        refine Ops.u (Dtu.asg (lk rfl)) rfl ?_
        refine Ops.nil ?_
        refine Then.next ?_
        refine Body.ret ?_
        (refine ⟨.inr rfl, _, pk [] rfl, bool_eq ?_, rfl⟩; show _ ↔ (View.ok ⟨x.v.rows, x.v.cols, x.v.cells, x.v.row, x.v.col, x.v.vis⟩ && decide _) = true; simp only [Bool.and_eq_true, decide_eq_true_eq, Bool.false_eq_true, Bool.true_eq_false, true_and, false_and, true_iff, false_iff, iff_true, iff_false, not_and, *] <;> first | omega | (intro _; omega) | simp | (constructor <;> intros <;> first | omega | (simp_all; omega)))
    · refine Ops.gn rfl rfl rfl rfl rfl ?_
      refine Ops.gn rfl rfl rfl rfl rfl ?_
      refine Ops.gn rfl rfl rfl rfl rfl ?_
      refine Ops.gn rfl rfl rfl rfl rfl ?_
      refine Ops.u (Dtu.pickF (lk rfl) (lk rfl)) rfl ?_
      refine Ops.u (Dtu.mv (lk rfl)) rfl ?_
      refine Ops.gn rfl rfl rfl rfl rfl ?_
      refine Ops.gn rfl rfl rfl rfl rfl ?_
      refine Ops.gn rfl rfl rfl rfl rfl ?_
      refine Ops.u (Dtu.pickF (lk rfl) (lk rfl)) rfl ?_
      refine Ops.u (Dtu.mv (lk rfl)) rfl ?_
      refine Ops.gn rfl rfl rfl rfl rfl ?_
      refine Ops.gn rfl rfl rfl rfl rfl ?_
      refine Ops.gn rfl rfl rfl rfl rfl ?_
      refine Ops.u (Dtu.pickF (lk rfl) (lk rfl)) rfl ?_
      refine Ops.u (Dtu.asg (lk rfl)) rfl ?_
      refine Ops.nil ?_
      refine Then.next ?_
      refine Body.ret ?_
      (refine ⟨.inr rfl, _, pk [] rfl, bool_eq ?_, rfl⟩; show _ ↔ (View.ok ⟨x.v.rows, x.v.cols, x.v.cells, x.v.row, x.v.col, x.v.vis⟩ && decide _) = true; simp only [Bool.and_eq_true, decide_eq_true_eq, Bool.false_eq_true, Bool.true_eq_false, true_and, false_and, true_iff, false_iff, iff_true, iff_false, not_and, *] <;> first | omega | (intro _; omega) | simp | (constructor <;> intros <;> first | omega | (simp_all; omega)))
  · refine Ops.gn rfl rfl rfl rfl rfl ?_
    refine Ops.gn rfl rfl rfl rfl rfl ?_
    refine Ops.gn rfl rfl rfl rfl rfl ?_
    refine Ops.gn rfl rfl rfl rfl rfl ?_
    refine Ops.u (Dtu.pickF (lk rfl) (lk rfl)) rfl ?_
    refine Ops.u (Dtu.mv (lk rfl)) rfl ?_
    refine Ops.gn rfl rfl rfl rfl rfl ?_
    refine Ops.gn rfl rfl rfl rfl rfl ?_
    refine Ops.gn rfl rfl rfl rfl rfl ?_
    refine Ops.gn rfl rfl rfl rfl rfl ?_
    refine Ops.u (Dtu.pickF (lk rfl) (lk rfl)) rfl ?_
    refine Ops.u (Dtu.mv (lk rfl)) rfl ?_
    refine Ops.gn rfl rfl rfl rfl rfl ?_
    refine Ops.gn rfl rfl rfl rfl rfl ?_
    refine Ops.gn rfl rfl rfl rfl rfl ?_
    refine Ops.u (Dtu.pickF (lk rfl) (lk rfl)) rfl ?_
    refine Ops.u (Dtu.mv (lk rfl)) rfl ?_
    refine Ops.gn rfl rfl rfl rfl rfl ?_
    refine Ops.gn rfl rfl rfl rfl rfl ?_
    refine Ops.gn rfl rfl rfl rfl rfl ?_
    refine Ops.u (Dtu.pickF (lk rfl) (lk rfl)) rfl ?_
    refine Ops.u (Dtu.asg (lk rfl)) rfl ?_
    refine Ops.nil ?_
    refine Then.next ?_
    refine Body.ret ?_
    (refine ⟨.inr rfl, _, pk [] rfl, bool_eq ?_, rfl⟩; show _ ↔ (View.ok ⟨x.v.rows, x.v.cols, x.v.cells, x.v.row, x.v.col, x.v.vis⟩ && decide _) = true; simp only [Bool.and_eq_true, decide_eq_true_eq, Bool.false_eq_true, Bool.true_eq_false, true_and, false_and, true_iff, false_iff, iff_true, iff_false, not_and, *] <;> first | omega | (intro _; omega) | simp | (constructor <;> intros <;> first | omega | (simp_all; omega)))
theorem rsame22_ok (E : Env) (a b : Stt) (s t : Value) (ha : a.v.rhas E [] s) (hb : b.v.rhas E [] t) (fa : ∀ c ∈ a.v.cells, c.Fl) (fb : ∀ c ∈ b.v.cells, c.Fl) : Does Try.prog 45 #[a.val s, b.val t] E [] fun r H' => r = .bool (decide (a.eqv b)) ∧ H' = [] := by
  unfold View.rhas at ha hb
  refine Does.pure ha.isSl fun hs => ?_
  obtain ⟨sa, sm, sc, rfl⟩ := hs
  refine Does.pure hb.isSl fun hs => ?_
  obtain ⟨ta, tm, tc, rfl⟩ := hs
  refine Does.go (args := [a.val _, b.val _]) _ _ Try.func45 rfl Try.ntmps45 rfl rfl ?_
  refine Body.seq ?_
  refine Body.region ?_
  refine Ops.s (Stp.box (lk rfl) rfl (fun b2 => ?_)) rfl
  refine Ops.s (Stp.box (lk rfl) rfl (fun b3 => ?_)) rfl
  refine Ops.u (Dtu.asg (lk rfl)) rfl ?_
  refine Ops.nil ?_
  refine Then.next ?_
  refine Body.seq ?_
  refine Body.region ?_
  refine Ops.u (Dtu.fld fa80_0 (lk rfl)) rfl ?_
  refine Ops.d (Det.lda Try.isAgg30 Try.sizeOf30 (lk rfl) (Rds.ow (m := 6) 1 rfl rfl) rfl) rfl ?_
  refine Ops.u (Dtu.fld fa80_0 (lk rfl)) rfl ?_
  refine Ops.d (Det.lda Try.isAgg30 Try.sizeOf30 (lk rfl) (Rds.ow (m := 6) 0 rfl rfl) rfl) rfl ?_
  refine Ops.s (Stp.call rfl Try.call24 (lks rfl) (fun E' le hat => rsame_ok E' ⟨a.v.rows, a.v.cols, a.v.cells, a.v.row, a.v.col, a.v.vis⟩ ⟨b.v.rows, b.v.cols, b.v.cells, b.v.row, b.v.col, b.v.vis⟩ _ _ (Sl.mono ha le) (Sl.mono hb le) fa fb) ?_) rfl
  rintro _ _ ⟨rfl, rfl⟩
  refine Ops.u (Dtu.mv (lk rfl)) rfl ?_
  refine Ops.decP 10 rfl (fun c10 => ?_) (fun c10 => ?_)
  · refine Ops.gu rfl rfl rfl (Dtu.fld fa80_1 (lk rfl)) rfl ?_
    refine Ops.gd rfl rfl rfl (Det.ld Try.isAgg9 (lk rfl) (Rd.ow 1 rfl rfl)) rfl ?_
    refine Ops.gu rfl rfl rfl (Dtu.fld fa80_1 (lk rfl)) rfl ?_
    refine Ops.gd rfl rfl rfl (Det.ld Try.isAgg9 (lk rfl) (Rd.ow 0 rfl rfl)) rfl ?_
    refine Ops.gu rfl rfl rfl (Dtu.eqStr (lk rfl) (lk rfl)) rfl ?_
    refine Ops.u (Dtu.pickT (lk rfl) (lk rfl)) rfl ?_
    refine Ops.u (Dtu.mv (lk rfl)) rfl ?_
    refine Ops.decP 17 rfl (fun c17 => ?_) (fun c17 => ?_)
    · refine Ops.gu rfl rfl rfl (Dtu.fld fa80_2 (lk rfl)) rfl ?_
      refine Ops.gd rfl rfl rfl (Det.ld Try.isAgg9 (lk rfl) (Rd.ow 1 rfl rfl)) rfl ?_
      refine Ops.gu rfl rfl rfl (Dtu.fld fa80_2 (lk rfl)) rfl ?_
      refine Ops.gd rfl rfl rfl (Det.ld Try.isAgg9 (lk rfl) (Rd.ow 0 rfl rfl)) rfl ?_
      refine Ops.gu rfl rfl rfl (Dtu.eqStr (lk rfl) (lk rfl)) rfl ?_
      refine Ops.u (Dtu.pickT (lk rfl) (lk rfl)) rfl ?_
      refine Ops.u (Dtu.mv (lk rfl)) rfl ?_
      refine Ops.decP 24 rfl (fun c24 => ?_) (fun c24 => ?_)
      · refine Ops.gu rfl rfl rfl (Dtu.fld fa80_3 (lk rfl)) rfl ?_
        refine Ops.gd rfl rfl rfl (Det.ld Try.isAgg75 (lk rfl) (Rd.ow 1 rfl rfl)) rfl ?_
        refine Ops.gu rfl rfl rfl (Dtu.fld fa80_3 (lk rfl)) rfl ?_
        refine Ops.gd rfl rfl rfl (Det.ld Try.isAgg75 (lk rfl) (Rd.ow 0 rfl rfl)) rfl ?_
        refine Ops.gu rfl rfl rfl (Dtu.eql (lk rfl) (lk rfl)) rfl ?_
        refine Ops.u (Dtu.pickT (lk rfl) (lk rfl)) rfl ?_
        refine Ops.u (Dtu.mv (lk rfl)) rfl ?_
        refine Ops.decP 31 rfl (fun c31 => ?_) (fun c31 => ?_)
        · refine Ops.gu rfl rfl rfl (Dtu.fld fa80_4 (lk rfl)) rfl ?_
          refine Ops.gd rfl rfl rfl (Det.ld Try.isAgg75 (lk rfl) (Rd.ow 1 rfl rfl)) rfl ?_
          refine Ops.gu rfl rfl rfl (Dtu.fld fa80_4 (lk rfl)) rfl ?_
          refine Ops.gd rfl rfl rfl (Det.ld Try.isAgg75 (lk rfl) (Rd.ow 0 rfl rfl)) rfl ?_
          refine Ops.gu rfl rfl rfl (Dtu.eql (lk rfl) (lk rfl)) rfl ?_
          refine Ops.u (Dtu.pickT (lk rfl) (lk rfl)) rfl ?_
          refine Ops.u (Dtu.asg (lk rfl)) rfl ?_
          refine Ops.nil ?_
          refine Then.next ?_
          refine Body.ret ?_
          (refine ⟨.inr rfl, _, pk [] rfl, bool_eq ?_, rfl⟩; show _ ↔ decide ((View.mk a.v.rows a.v.cols a.v.cells a.v.row a.v.col a.v.vis = View.mk b.v.rows b.v.cols b.v.cells b.v.row b.v.col b.v.vis) ∧ a.title.toList = b.title.toList ∧ (a.clip.toList = b.clip.toList ∧ a.clips = b.clips) ∧ a.bells = b.bells) = true; simp [*] <;> simp_all)
        · refine Ops.gn rfl rfl rfl rfl rfl ?_
          refine Ops.gn rfl rfl rfl rfl rfl ?_
          refine Ops.gn rfl rfl rfl rfl rfl ?_
          refine Ops.gn rfl rfl rfl rfl rfl ?_
          refine Ops.gn rfl rfl rfl rfl rfl ?_
          refine Ops.u (Dtu.pickF (lk rfl) (lk rfl)) rfl ?_
          refine Ops.u (Dtu.asg (lk rfl)) rfl ?_
          refine Ops.nil ?_
          refine Then.next ?_
          refine Body.ret ?_
          (refine ⟨.inr rfl, _, pk [] rfl, bool_eq ?_, rfl⟩; show _ ↔ decide ((View.mk a.v.rows a.v.cols a.v.cells a.v.row a.v.col a.v.vis = View.mk b.v.rows b.v.cols b.v.cells b.v.row b.v.col b.v.vis) ∧ a.title.toList = b.title.toList ∧ (a.clip.toList = b.clip.toList ∧ a.clips = b.clips) ∧ a.bells = b.bells) = true; simp [*] <;> simp_all)
      · refine Ops.gn rfl rfl rfl rfl rfl ?_
        refine Ops.gn rfl rfl rfl rfl rfl ?_
        refine Ops.gn rfl rfl rfl rfl rfl ?_
        refine Ops.gn rfl rfl rfl rfl rfl ?_
        refine Ops.gn rfl rfl rfl rfl rfl ?_
        refine Ops.u (Dtu.pickF (lk rfl) (lk rfl)) rfl ?_
        refine Ops.u (Dtu.mv (lk rfl)) rfl ?_
        refine Ops.gn rfl rfl rfl rfl rfl ?_
        refine Ops.gn rfl rfl rfl rfl rfl ?_
        refine Ops.gn rfl rfl rfl rfl rfl ?_
        refine Ops.gn rfl rfl rfl rfl rfl ?_
        refine Ops.gn rfl rfl rfl rfl rfl ?_
        refine Ops.u (Dtu.pickF (lk rfl) (lk rfl)) rfl ?_
        refine Ops.u (Dtu.asg (lk rfl)) rfl ?_
        refine Ops.nil ?_
        refine Then.next ?_
        refine Body.ret ?_
        (refine ⟨.inr rfl, _, pk [] rfl, bool_eq ?_, rfl⟩; show _ ↔ decide ((View.mk a.v.rows a.v.cols a.v.cells a.v.row a.v.col a.v.vis = View.mk b.v.rows b.v.cols b.v.cells b.v.row b.v.col b.v.vis) ∧ a.title.toList = b.title.toList ∧ (a.clip.toList = b.clip.toList ∧ a.clips = b.clips) ∧ a.bells = b.bells) = true; simp [*] <;> simp_all)
    · refine Ops.gn rfl rfl rfl rfl rfl ?_
      refine Ops.gn rfl rfl rfl rfl rfl ?_
      refine Ops.gn rfl rfl rfl rfl rfl ?_
      refine Ops.gn rfl rfl rfl rfl rfl ?_
      refine Ops.gn rfl rfl rfl rfl rfl ?_
      refine Ops.u (Dtu.pickF (lk rfl) (lk rfl)) rfl ?_
      refine Ops.u (Dtu.mv (lk rfl)) rfl ?_
      refine Ops.gn rfl rfl rfl rfl rfl ?_
      refine Ops.gn rfl rfl rfl rfl rfl ?_
      refine Ops.gn rfl rfl rfl rfl rfl ?_
      refine Ops.gn rfl rfl rfl rfl rfl ?_
      refine Ops.gn rfl rfl rfl rfl rfl ?_
      refine Ops.u (Dtu.pickF (lk rfl) (lk rfl)) rfl ?_
      refine Ops.u (Dtu.mv (lk rfl)) rfl ?_
      refine Ops.gn rfl rfl rfl rfl rfl ?_
      refine Ops.gn rfl rfl rfl rfl rfl ?_
      refine Ops.gn rfl rfl rfl rfl rfl ?_
      refine Ops.gn rfl rfl rfl rfl rfl ?_
      refine Ops.gn rfl rfl rfl rfl rfl ?_
      refine Ops.u (Dtu.pickF (lk rfl) (lk rfl)) rfl ?_
      refine Ops.u (Dtu.asg (lk rfl)) rfl ?_
      refine Ops.nil ?_
      refine Then.next ?_
      refine Body.ret ?_
      (refine ⟨.inr rfl, _, pk [] rfl, bool_eq ?_, rfl⟩; show _ ↔ decide ((View.mk a.v.rows a.v.cols a.v.cells a.v.row a.v.col a.v.vis = View.mk b.v.rows b.v.cols b.v.cells b.v.row b.v.col b.v.vis) ∧ a.title.toList = b.title.toList ∧ (a.clip.toList = b.clip.toList ∧ a.clips = b.clips) ∧ a.bells = b.bells) = true; simp [*] <;> simp_all)
  · refine Ops.gn rfl rfl rfl rfl rfl ?_
    refine Ops.gn rfl rfl rfl rfl rfl ?_
    refine Ops.gn rfl rfl rfl rfl rfl ?_
    refine Ops.gn rfl rfl rfl rfl rfl ?_
    refine Ops.gn rfl rfl rfl rfl rfl ?_
    refine Ops.u (Dtu.pickF (lk rfl) (lk rfl)) rfl ?_
    refine Ops.u (Dtu.mv (lk rfl)) rfl ?_
    refine Ops.gn rfl rfl rfl rfl rfl ?_
    refine Ops.gn rfl rfl rfl rfl rfl ?_
    refine Ops.gn rfl rfl rfl rfl rfl ?_
    refine Ops.gn rfl rfl rfl rfl rfl ?_
    refine Ops.gn rfl rfl rfl rfl rfl ?_
    refine Ops.u (Dtu.pickF (lk rfl) (lk rfl)) rfl ?_
    refine Ops.u (Dtu.mv (lk rfl)) rfl ?_
    refine Ops.gn rfl rfl rfl rfl rfl ?_
    refine Ops.gn rfl rfl rfl rfl rfl ?_
    refine Ops.gn rfl rfl rfl rfl rfl ?_
    refine Ops.gn rfl rfl rfl rfl rfl ?_
    refine Ops.gn rfl rfl rfl rfl rfl ?_
    refine Ops.u (Dtu.pickF (lk rfl) (lk rfl)) rfl ?_
    refine Ops.u (Dtu.mv (lk rfl)) rfl ?_
    refine Ops.gn rfl rfl rfl rfl rfl ?_
    refine Ops.gn rfl rfl rfl rfl rfl ?_
    refine Ops.gn rfl rfl rfl rfl rfl ?_
    refine Ops.gn rfl rfl rfl rfl rfl ?_
    refine Ops.gn rfl rfl rfl rfl rfl ?_
    refine Ops.u (Dtu.pickF (lk rfl) (lk rfl)) rfl ?_
    refine Ops.u (Dtu.asg (lk rfl)) rfl ?_
    refine Ops.nil ?_
    refine Then.next ?_
    refine Body.ret ?_
    (refine ⟨.inr rfl, _, pk [] rfl, bool_eq ?_, rfl⟩; show _ ↔ decide ((View.mk a.v.rows a.v.cols a.v.cells a.v.row a.v.col a.v.vis = View.mk b.v.rows b.v.cols b.v.cells b.v.row b.v.col b.v.vis) ∧ a.title.toList = b.title.toList ∧ (a.clip.toList = b.clip.toList ∧ a.clips = b.clips) ∧ a.bells = b.bells) = true; simp [*] <;> simp_all)
theorem rfield_ok (E : Env) (t : Int) (s : Value) (d : List Int) (m : Nat) (h : Sl E [] 1 s m (d.map (.int .u8))) (hm : d.length = m) (hn : m ≤ 100000) : Does Try.prog 87 #[.int .u8 t, s] E [] fun r H' => ∃ s', s' = r ∧ H' = [osl 5 1 s' (fldB t d).length ((fldB t d).map (.int .u8))] := by
  subst hm
  have hz := sizeS_le (d.length : Int)
  refine Does.go (args := [.int .u8 t, s]) _ _ Try.func87 rfl Try.ntmps87 rfl rfl ?_
  refine Body.seq ?_
  refine Body.region ?_
  refine Ops.u (Dtu.asg (lk rfl)) rfl ?_
  refine Ops.nil ?_
  refine Then.next ?_
  refine Body.seq ?_
  refine Body.region ?_
  refine Ops.u (Dtu.mv (lk rfl)) rfl ?_
  refine Ops.s (Stp.buildSliceO Try.underlying32 ty5 (by decide) (by decide) (lkp rfl) rfl rfl rfl (by decide) (fun v7 => ?_)) rfl
  refine Ops.u (Dtu.asg (lk rfl)) rfl ?_
  refine Ops.nil ?_
  refine Then.next ?_
  refine Body.seq ?_
  refine Body.region ?_
  refine Ops.u (Dtu.mv (lk rfl)) rfl ?_
  refine Ops.u (Dtu.mv (lk rfl)) rfl ?_
  refine Ops.u (Dtu.lenS Try.underlying32 (Sl.up h) (lk rfl)) rfl ?_
  refine Ops.u (Dtu.cvt Try.underlying3 Try.underlying75 (lk rfl) (wu64 (by omega) (by omega))) rfl ?_
  refine Ops.s (Stp.call rfl Try.call63 (lks rfl) (fun E' le hat => rput_ok E' _ (by omega) (by omega)) ?_) rfl
  rintro _ _ ⟨sp12, rfl, rfl⟩
  refine Ops.s (Stp.append 1 Try.underlying32 ty5 rfl rfl (lk rfl) (lk rfl) (Sl.osl 0 rfl) (by first | rfl | exact all_map (fun _ => rfl) _ | exact all_flat (fun _ => rfl) _) (by omega) (by omega) (fun v13 => ?_)) rfl
  refine Ops.u (Dtu.asg (lk rfl)) rfl ?_
  refine Ops.nil ?_
  refine Then.next ?_
  refine Body.seq ?_
  refine Body.region ?_
  refine Ops.u (Dtu.mv (lk rfl)) rfl ?_
  refine Ops.u (Dtu.mv (lk rfl)) rfl ?_
  refine Ops.s (Stp.append 1 Try.underlying32 ty5 rfl rfl (lk rfl) (lk rfl) (Sl.up h) (by first | rfl | exact all_map (fun _ => rfl) _ | exact all_flat (fun _ => rfl) _) (by omega) (by omega) (fun v16 => ?_)) rfl
  refine Ops.u (Dtu.asg (lk rfl)) rfl ?_
  refine Ops.nil ?_
  refine Then.next ?_
  refine Body.ret ?_
  refine ⟨.inr rfl, _, pk [1] rfl, v16, rfl, ?_⟩
  simp [fldB, putL_len, Nat.add_assoc, Nat.add_comm, Nat.add_left_comm]
end Go.Proofs.Ytijjjdljdjnbaaa
end
section
/- The document's changes. -/
namespace Go.Proofs.Ytijjjdljdjnbaaa
set_option maxRecDepth 100000
set_option linter.unusedVariables false
set_option linter.unusedSimpArgs false
open Go.Sx

set_option maxHeartbeats 3200000 in
theorem rdiff22_ok (E : Env) (a b : Stt) (s t : Value) (ha : a.v.rhas E [] s) (hb : b.v.rhas E [] t) (ka : a.ok = true) (kb : b.ok = true) (la : ∀ c ∈ a.v.cells, c.Fl) (lb : ∀ c ∈ b.v.cells, c.Fl) (hc : 0 ≤ b.clips) (hbe : 0 ≤ b.bells) : Does Try.prog 46 #[a.val s, b.val t] E [] fun r H' => ∃ s', s' = r ∧ H' = [osl 5 1 s' (sdifB a b).length ((sdifB a b).map (.int .u8))] := by
  obtain ⟨⟨ar, ac, al, ao, aq, av⟩, at1, ap, an, ab⟩ := a
  obtain ⟨⟨br, bc, bl, bo, bq, bv⟩, bt, bp, bn, bb⟩ := b
  unfold View.rhas at ha hb
  obtain ⟨kav, _⟩ := Stt.ok_fits ka
  obtain ⟨kbv, t1, t2, t3, t4⟩ := Stt.ok_fits kb
  dsimp only at ha hb kav kbv t1 t2 t3 t4 la lb hc hbe
  refine Does.pure ha.isSl fun hs => ?_
  obtain ⟨sa, sm, sc, rfl⟩ := hs
  refine Does.pure hb.isSl fun hs => ?_
  obtain ⟨ta, tm, tc, rfl⟩ := hs
  have hz1 := sizeS_le bn
  have hz2 := sizeS_le bb
  have hdl := difB_most kav kbv
  have hB : sdifB ⟨⟨ar, ac, al, ao, aq, av⟩, at1, ap, an, ab⟩ ⟨⟨br, bc, bl, bo, bq, bv⟩, bt, bp, bn, bb⟩ = ((fldB 1 (difB ⟨ar, ac, al, ao, aq, av⟩ ⟨br, bc, bl, bo, bq, bv⟩) ++ (if at1.toList ≠ bt.toList then fldB 2 (numsOf bt) else [])) ++ (if ap.toList ≠ bp.toList ∨ an ≠ bn then fldB 3 (putL bn ++ numsOf bp) else [])) ++ (if ab ≠ bb then fldB 4 (putL bb) else []) := by
    simp only [sdifB, sdifL, List.flatMap_append]
    congr 1
    · congr 1
      · congr 1
        · simp
        · split <;> simp
      · by_cases h1 : ap.toList = bp.toList <;> by_cases h2 : an = bn <;> simp [h1, h2]
    · split <;> simp
  have fl : ∀ (t : Int) (d : List Int), (fldB t d).length ≤ 9 + d.length := by
    intro t d; have := sizeS_le (d.length : Int); simp [fldB, putL_len]; omega
  have n1 := numsOf_len bt
  have n2 := numsOf_len bp
  have n3 := putL_len bn
  have n4 := putL_len bb
  have f1 := fl 1 (difB ⟨ar, ac, al, ao, aq, av⟩ ⟨br, bc, bl, bo, bq, bv⟩)
  have f2 := fl 2 (numsOf bt)
  have f3 := fl 3 (putL bn ++ numsOf bp)
  have f4 := fl 4 (putL bb)
  rw [List.length_append] at f3
  have hR := fun (E' : Env) (le : Env.Le E E') => rdiff_ok E' ⟨ar, ac, al, ao, aq, av⟩ ⟨br, bc, bl, bo, bq, bv⟩ _ _ (Sl.mono ha le) (Sl.mono hb le) kav kbv la lb
  rw [hB]
  generalize difB ⟨ar, ac, al, ao, aq, av⟩ ⟨br, bc, bl, bo, bq, bv⟩ = D at *
  refine Does.go (args := [.agg (List.toArray [.int .i64 ar, .int .i64 ac, .slice sa sm sc, .int .i64 ao, .int .i64 aq, .bool av, .string at1, .string ap, .int .u64 an, .int .u64 ab]), .agg (List.toArray [.int .i64 br, .int .i64 bc, .slice ta tm tc, .int .i64 bo, .int .i64 bq, .bool bv, .string bt, .string bp, .int .u64 bn, .int .u64 bb])]) _ _ Try.func46 rfl Try.ntmps46 rfl rfl ?_
  refine Body.seq ?_
  refine Body.region ?_
  refine Ops.s (Stp.box (lk rfl) rfl (fun b2 => ?_)) rfl
  refine Ops.s (Stp.box (lk rfl) rfl (fun b3 => ?_)) rfl
  refine Ops.u (Dtu.asg (lk rfl)) rfl ?_
  refine Ops.nil ?_
  refine Then.next ?_
  refine Body.seq ?_
  refine Body.region ?_
  refine Ops.u (Dtu.fld fa80_0 (lk rfl)) rfl ?_
  refine Ops.d (Det.lda Try.isAgg30 Try.sizeOf30 (lk rfl) (Rds.ow (m := 6) 1 rfl rfl) rfl) rfl ?_
  refine Ops.u (Dtu.fld fa80_0 (lk rfl)) rfl ?_
  refine Ops.d (Det.lda Try.isAgg30 Try.sizeOf30 (lk rfl) (Rds.ow (m := 6) 0 rfl rfl) rfl) rfl ?_
  refine Ops.s (Stp.call rfl Try.call19 (lks rfl) (fun E' le hat => hR E' le) ?_) rfl
  rintro _ _ ⟨s10, rfl, rfl⟩
  refine Ops.s (Stp.call rfl Try.call87 (lks rfl) (fun E' le hat => rfield_ok E' _ _ _ _ (by first | exact Sl.mono (by assumption) le | exact Sl.at (hat _ (.head _)) | exact Sl.at (hat _ (.tail _ (.head _))) | exact Sl.atR (hat _ (.head _))) (by first | rfl | exact numsOf_len _ | exact putL_len _) (by first | omega | (dsimp only; omega))) ?_) rfl
  rintro _ _ ⟨s11, rfl, rfl⟩
  refine Ops.u (Dtu.asg (lk rfl)) rfl ?_
  refine Ops.nil ?_
  refine Then.next ?_
  generalize hL1 : fldB 1 D = L1 at *
  have hown : ∀ (O : Value) (L : List Int), True := fun _ _ => trivial
  refine Body.seqJ (γ := Value) rfl (fun g => [(5, g)]) (fun g => [osl 5 1 g (L1 ++ (if at1.toList ≠ bt.toList then fldB 2 (numsOf bt) else [])).length ((L1 ++ (if at1.toList ≠ bt.toList then fldB 2 (numsOf bt) else [])).map (.int .u8)), own b3 [.int .i64 br, .int .i64 bc, .slice ta tm tc, .int .i64 bo, .int .i64 bq, .bool bv, .string bt, .string bp, .int .u64 bn, .int .u64 bb] 80, own b2 [.int .i64 ar, .int .i64 ac, .slice sa sm sc, .int .i64 ao, .int .i64 aq, .bool av, .string at1, .string ap, .int .u64 an, .int .u64 ab] 80]) (fun _ => True) ?_ ?_
  · refine Body.seq ?_
    refine Body.region ?_
    refine Ops.u (Dtu.fld fa80_1 (lk rfl)) rfl ?_
    refine Ops.d (Det.ld Try.isAgg9 (lk rfl) (Rd.ow 3 rfl rfl)) rfl ?_
    refine Ops.u (Dtu.fld fa80_1 (lk rfl)) rfl ?_
    refine Ops.d (Det.ld Try.isAgg9 (lk rfl) (Rd.ow 2 rfl rfl)) rfl ?_
    refine Ops.u (Dtu.neStr (lk rfl) (lk rfl)) rfl ?_
    refine Ops.nil ?_
    refine Then.next ?_
    refine Body.condP (lk rfl) (fun c16 => ?_) (fun c16 => ?_)
    · rw [if_pos (by assumption)]
      refine Body.region ?_
      refine Ops.u (Dtu.mv (lk rfl)) rfl ?_
      refine Ops.u (Dtu.fld fa80_1 (lk rfl)) rfl ?_
      refine Ops.d (Det.ld Try.isAgg9 (lk rfl) (Rd.ow 2 rfl rfl)) rfl ?_
      refine Ops.s (Stp.cvtSB Try.underlying9 Try.underlying32 Try.underlying5 (lk rfl) (by first | omega | (dsimp only; omega)) (fun v20 => ?_)) rfl
      refine Ops.s (Stp.call rfl Try.call87 (lks rfl) (fun E' le hat => rfield_ok E' _ _ _ _ (by first | exact Sl.mono (by assumption) le | exact Sl.at (hat _ (.head _)) | exact Sl.at (hat _ (.tail _ (.head _))) | exact Sl.atR (hat _ (.head _))) (by first | rfl | exact numsOf_len _ | exact putL_len _) (by first | omega | (dsimp only; omega))) ?_) rfl
      rintro _ _ ⟨s21, rfl, rfl⟩
      refine Ops.s (Stp.append 2 Try.underlying32 ty5 rfl rfl (lk rfl) (lk rfl) (Sl.osl 0 rfl) (by first | rfl | exact all_map (fun _ => rfl) _ | exact all_flat (fun _ => rfl) _) (by omega) (by omega) (fun v22 => ?_)) rfl
      refine Ops.u (Dtu.asg (lk rfl)) rfl ?_
      refine Ops.nil ?_
      refine Joint.goK [2, 3, 3] v22 rfl rfl rfl ⟨rfl, trivial⟩ rfl (by rw [List.length_append, List.map_append]) trivial
    · rw [if_neg (by assumption)]
      refine Body.skip ?_
      refine Joint.goK [0, 1, 1] s11 rfl rfl rfl ⟨rfl, trivial⟩ rfl (by rw [List.append_nil]) trivial
  · rintro O u _
    have hm2 : (L1 ++ (if at1.toList ≠ bt.toList then fldB 2 (numsOf bt) else [])).length ≤ L1.length + 200 := by split <;> simp <;> omega
    generalize L1 ++ (if at1.toList ≠ bt.toList then fldB 2 (numsOf bt) else []) = L2 at *
    skip
    generalize hC : (L2 ++ (if ap.toList ≠ bp.toList ∨ an ≠ bn then fldB 3 (putL bn ++ numsOf bp) else [])) = L3
    have hm3 : L3.length ≤ L2.length + 400 := by rw [← hC]; split <;> simp only [List.length_append, List.length_nil] <;> omega
    refine Body.seqJ (γ := Value) rfl (fun g => [(5, g)]) (fun g => [osl 5 1 g L3.length (L3.map (.int .u8)), own b3 [.int .i64 br, .int .i64 bc, .slice ta tm tc, .int .i64 bo, .int .i64 bq, .bool bv, .string bt, .string bp, .int .u64 bn, .int .u64 bb] 80, own b2 [.int .i64 ar, .int .i64 ac, .slice sa sm sc, .int .i64 ao, .int .i64 aq, .bool av, .string at1, .string ap, .int .u64 an, .int .u64 ab] 80]) (fun _ => True) ?_ ?_
    · by_cases h1 : ap.toList ≠ bp.toList
      · have hC2 : L2 ++ fldB 3 (putL bn ++ numsOf bp) = L3 := by rw [← hC, if_pos (.inl h1)]
        refine Body.seq ?_
        refine Body.region ?_
        refine Ops.u (Dtu.fld fa80_2 (lk rfl)) rfl ?_
        refine Ops.d (Det.ld Try.isAgg9 (lk rfl) (Rd.ow 2 rfl rfl)) rfl ?_
        refine Ops.u (Dtu.fld fa80_2 (lk rfl)) rfl ?_
        refine Ops.d (Det.ld Try.isAgg9 (lk rfl) (Rd.ow 1 rfl rfl)) rfl ?_
        refine Ops.u (Dtu.neStr (lk rfl) (lk rfl)) rfl ?_
        refine Ops.u (Dtu.mv (lk rfl)) rfl ?_
        refine Ops.decP 28 rfl (fun _ => ?_) (fun hn => absurd (by first | omega | assumption | decide) hn)
        refine Ops.gn rfl rfl rfl rfl rfl ?_
        refine Ops.gn rfl rfl rfl rfl rfl ?_
        refine Ops.gn rfl rfl rfl rfl rfl ?_
        refine Ops.gn rfl rfl rfl rfl rfl ?_
        refine Ops.gn rfl rfl rfl rfl rfl ?_
        refine Ops.u (Dtu.pickT (lk rfl) (lk rfl)) rfl ?_
        refine Ops.nil ?_
        refine Then.next ?_
        refine Body.condT (lk rfl) ?_
        refine Body.draw mixed ?_
        refine AB.u 0 rfl (by decide +kernel) (Dtu.mv (lk rfl)) rfl ?_
        refine AB.u 1 rfl (by decide +kernel) (Dtu.fld fa80_3 (lk rfl)) rfl ?_
        refine AB.d 2 rfl (by decide +kernel) rfl (Det.ld Try.isAgg75 (lk rfl) (Rd.ow 1 rfl rfl)) rfl ?_
        refine AB.u 4 rfl (by decide +kernel) (Dtu.fld fa80_2 (lk rfl)) rfl ?_
        refine AB.d 5 rfl (by decide +kernel) rfl (Det.ld Try.isAgg9 (lk rfl) (Rd.ow 1 rfl rfl)) rfl ?_
        refine AB.s 3 rfl (by decide +kernel) (by decide +kernel) (Stp.call rfl Try.call63 (lks rfl) (fun E' le hat => rput_ok E' _ (by omega) (by omega)) ?_) rfl
        rintro _ _ ⟨sp38, rfl, rfl⟩
        refine AB.s 6 rfl (by decide +kernel) (by decide +kernel) (Stp.appendStr 0 Try.underlying32 Try.underlying9 ty5 rfl rfl (lk rfl) (lk rfl) (by first | omega | (dsimp only; omega)) (by first | omega | (dsimp only; omega)) (fun v41 => ?_)) rfl
        refine AB.s 7 rfl (by decide +kernel) (by decide +kernel) (Stp.call rfl Try.call87 (lks rfl) (fun E' le hat => rfield_ok E' 3 _ (putL bn ++ numsOf bp) (sizeS bn + bp.size) (by rw [List.map_append]; exact Sl.at (t := 5) (hat _ (.head _))) (by rw [List.length_append]; omega) (by omega)) ?_) rfl
        rintro _ _ ⟨s42, rfl, rfl⟩
        refine AB.s 8 rfl (by decide +kernel) (by decide +kernel) (Stp.append 2 Try.underlying32 ty5 rfl rfl (lk rfl) (lk rfl) (Sl.osl 0 rfl) (by first | rfl | exact all_map (fun _ => rfl) _ | exact all_flat (fun _ => rfl) _) (by omega) (by omega) (fun v43 => ?_)) rfl
        refine AB.u 9 rfl (by decide +kernel) (Dtu.asg (lk rfl)) rfl ?_
        refine AB.done (by decide +kernel) ?_
        refine Joint.goK [2, 2, 2] v43 rfl rfl rfl ⟨rfl, trivial⟩ rfl (by rw [← hC2, List.length_append, List.map_append]) trivial
      · by_cases h2 : an ≠ bn
        · have hC2 : L2 ++ fldB 3 (putL bn ++ numsOf bp) = L3 := by rw [← hC, if_pos (.inr h2)]
          refine Body.seq ?_
          refine Body.region ?_
          refine Ops.u (Dtu.fld fa80_2 (lk rfl)) rfl ?_
          refine Ops.d (Det.ld Try.isAgg9 (lk rfl) (Rd.ow 2 rfl rfl)) rfl ?_
          refine Ops.u (Dtu.fld fa80_2 (lk rfl)) rfl ?_
          refine Ops.d (Det.ld Try.isAgg9 (lk rfl) (Rd.ow 1 rfl rfl)) rfl ?_
          refine Ops.u (Dtu.neStr (lk rfl) (lk rfl)) rfl ?_
          refine Ops.u (Dtu.mv (lk rfl)) rfl ?_
          refine Ops.decP 28 rfl (fun hy => absurd hy (by first | omega | assumption | decide)) (fun _ => ?_)
          refine Ops.gu rfl rfl rfl (Dtu.fld fa80_3 (lk rfl)) rfl ?_
          refine Ops.gd rfl rfl rfl (Det.ld Try.isAgg75 (lk rfl) (Rd.ow 2 rfl rfl)) rfl ?_
          refine Ops.gu rfl rfl rfl (Dtu.fld fa80_3 (lk rfl)) rfl ?_
          refine Ops.gd rfl rfl rfl (Det.ld Try.isAgg75 (lk rfl) (Rd.ow 1 rfl rfl)) rfl ?_
          refine Ops.gu rfl rfl rfl (Dtu.neq (lk rfl) (lk rfl)) rfl ?_
          refine Ops.u (Dtu.pickF (lk rfl) (lk rfl)) rfl ?_
          refine Ops.nil ?_
          refine Then.next ?_
          refine Body.condP (lk rfl) (fun _ => ?_) (fun hn => absurd (by first | omega | assumption | decide) hn)
          refine Body.draw mixed ?_
          refine AB.u 0 rfl (by decide +kernel) (Dtu.mv (lk rfl)) rfl ?_
          refine AB.u 1 rfl (by decide +kernel) (Dtu.fld fa80_3 (lk rfl)) rfl ?_
          refine AB.d 2 rfl (by decide +kernel) rfl (Det.ld Try.isAgg75 (lk rfl) (Rd.ow 1 rfl rfl)) rfl ?_
          refine AB.u 4 rfl (by decide +kernel) (Dtu.fld fa80_2 (lk rfl)) rfl ?_
          refine AB.d 5 rfl (by decide +kernel) rfl (Det.ld Try.isAgg9 (lk rfl) (Rd.ow 1 rfl rfl)) rfl ?_
          refine AB.s 3 rfl (by decide +kernel) (by decide +kernel) (Stp.call rfl Try.call63 (lks rfl) (fun E' le hat => rput_ok E' _ (by omega) (by omega)) ?_) rfl
          rintro _ _ ⟨sp38, rfl, rfl⟩
          refine AB.s 6 rfl (by decide +kernel) (by decide +kernel) (Stp.appendStr 0 Try.underlying32 Try.underlying9 ty5 rfl rfl (lk rfl) (lk rfl) (by first | omega | (dsimp only; omega)) (by first | omega | (dsimp only; omega)) (fun v41 => ?_)) rfl
          refine AB.s 7 rfl (by decide +kernel) (by decide +kernel) (Stp.call rfl Try.call87 (lks rfl) (fun E' le hat => rfield_ok E' 3 _ (putL bn ++ numsOf bp) (sizeS bn + bp.size) (by rw [List.map_append]; exact Sl.at (t := 5) (hat _ (.head _))) (by rw [List.length_append]; omega) (by omega)) ?_) rfl
          rintro _ _ ⟨s42, rfl, rfl⟩
          refine AB.s 8 rfl (by decide +kernel) (by decide +kernel) (Stp.append 2 Try.underlying32 ty5 rfl rfl (lk rfl) (lk rfl) (Sl.osl 0 rfl) (by first | rfl | exact all_map (fun _ => rfl) _ | exact all_flat (fun _ => rfl) _) (by omega) (by omega) (fun v43 => ?_)) rfl
          refine AB.u 9 rfl (by decide +kernel) (Dtu.asg (lk rfl)) rfl ?_
          refine AB.done (by decide +kernel) ?_
          refine Joint.goK [2, 2, 2] v43 rfl rfl rfl ⟨rfl, trivial⟩ rfl (by rw [← hC2, List.length_append, List.map_append]) trivial
        · have hC2 : L2 = L3 := by rw [← hC, if_neg (by rintro (h | h) <;> contradiction), List.append_nil]
          refine Body.seq ?_
          refine Body.region ?_
          refine Ops.u (Dtu.fld fa80_2 (lk rfl)) rfl ?_
          refine Ops.d (Det.ld Try.isAgg9 (lk rfl) (Rd.ow 2 rfl rfl)) rfl ?_
          refine Ops.u (Dtu.fld fa80_2 (lk rfl)) rfl ?_
          refine Ops.d (Det.ld Try.isAgg9 (lk rfl) (Rd.ow 1 rfl rfl)) rfl ?_
          refine Ops.u (Dtu.neStr (lk rfl) (lk rfl)) rfl ?_
          refine Ops.u (Dtu.mv (lk rfl)) rfl ?_
          refine Ops.decP 28 rfl (fun hy => absurd hy (by first | omega | assumption | decide)) (fun _ => ?_)
          refine Ops.gu rfl rfl rfl (Dtu.fld fa80_3 (lk rfl)) rfl ?_
          refine Ops.gd rfl rfl rfl (Det.ld Try.isAgg75 (lk rfl) (Rd.ow 2 rfl rfl)) rfl ?_
          refine Ops.gu rfl rfl rfl (Dtu.fld fa80_3 (lk rfl)) rfl ?_
          refine Ops.gd rfl rfl rfl (Det.ld Try.isAgg75 (lk rfl) (Rd.ow 1 rfl rfl)) rfl ?_
          refine Ops.gu rfl rfl rfl (Dtu.neq (lk rfl) (lk rfl)) rfl ?_
          refine Ops.u (Dtu.pickF (lk rfl) (lk rfl)) rfl ?_
          refine Ops.nil ?_
          refine Then.next ?_
          refine Body.condP (lk rfl) (fun hy => absurd hy (by first | omega | assumption | decide)) (fun _ => ?_)
          refine Body.skip ?_
          subst hC2
          refine Joint.goK [0, 0, 0] O rfl rfl rfl ⟨rfl, trivial⟩ rfl rfl trivial
    · rintro O3 u3 _
      generalize hD4 : L3 ++ (if ab ≠ bb then fldB 4 (putL bb) else []) = L4
      refine Body.seqJ (γ := Value) rfl (fun g => [(5, g)]) (fun g => [osl 5 1 g L4.length (L4.map (.int .u8)), own b3 [.int .i64 br, .int .i64 bc, .slice ta tm tc, .int .i64 bo, .int .i64 bq, .bool bv, .string bt, .string bp, .int .u64 bn, .int .u64 bb] 80, own b2 [.int .i64 ar, .int .i64 ac, .slice sa sm sc, .int .i64 ao, .int .i64 aq, .bool av, .string at1, .string ap, .int .u64 an, .int .u64 ab] 80]) (fun _ => True) ?_ ?_
      · refine Body.seq ?_
        refine Body.region ?_
        refine Ops.u (Dtu.fld fa80_4 (lk rfl)) rfl ?_
        refine Ops.d (Det.ld Try.isAgg75 (lk rfl) (Rd.ow 2 rfl rfl)) rfl ?_
        refine Ops.u (Dtu.fld fa80_4 (lk rfl)) rfl ?_
        refine Ops.d (Det.ld Try.isAgg75 (lk rfl) (Rd.ow 1 rfl rfl)) rfl ?_
        refine Ops.u (Dtu.neq (lk rfl) (lk rfl)) rfl ?_
        refine Ops.nil ?_
        refine Then.next ?_
        refine Body.condP (lk rfl) (fun c48 => ?_) (fun c48 => ?_)
        · rw [if_pos (by assumption)] at hD4
          refine Body.region ?_
          refine Ops.u (Dtu.mv (lk rfl)) rfl ?_
          refine Ops.u (Dtu.fld fa80_4 (lk rfl)) rfl ?_
          refine Ops.d (Det.ld Try.isAgg75 (lk rfl) (Rd.ow 1 rfl rfl)) rfl ?_
          refine Ops.s (Stp.call rfl Try.call63 (lks rfl) (fun E' le hat => rput_ok E' _ (by omega) (by omega)) ?_) rfl
          rintro _ _ ⟨sp52, rfl, rfl⟩
          refine Ops.s (Stp.call rfl Try.call87 (lks rfl) (fun E' le hat => rfield_ok E' _ _ _ _ (by first | exact Sl.mono (by assumption) le | exact Sl.at (hat _ (.head _)) | exact Sl.at (hat _ (.tail _ (.head _))) | exact Sl.atR (hat _ (.head _))) (by first | rfl | exact numsOf_len _ | exact putL_len _) (by first | omega | (dsimp only; omega))) ?_) rfl
          rintro _ _ ⟨s53, rfl, rfl⟩
          refine Ops.s (Stp.append 2 Try.underlying32 ty5 rfl rfl (lk rfl) (lk rfl) (Sl.osl 0 rfl) (by first | rfl | exact all_map (fun _ => rfl) _ | exact all_flat (fun _ => rfl) _) (by omega) (by omega) (fun v54 => ?_)) rfl
          refine Ops.u (Dtu.asg (lk rfl)) rfl ?_
          refine Ops.nil ?_
          refine Joint.goK [2, 2, 2] v54 rfl rfl rfl ⟨rfl, trivial⟩ rfl (by rw [← hD4, List.length_append, List.map_append]) trivial
        · rw [if_neg (by assumption), List.append_nil] at hD4
          subst hD4
          refine Body.skip ?_
          refine Joint.goK [0, 0, 0] O3 rfl rfl rfl ⟨rfl, trivial⟩ rfl rfl trivial
      · rintro O4 u4 _
        refine Body.seq ?_
        refine Body.region ?_
        refine Ops.u (Dtu.mv (lk rfl)) rfl ?_
        refine Ops.u (Dtu.asg (lk rfl)) rfl ?_
        refine Ops.nil ?_
        refine Then.next ?_
        refine Body.ret ?_
        exact ⟨.inr rfl, _, pk [0] rfl, O4, rfl, rfl⟩
end Go.Proofs.Ytijjjdljdjnbaaa
end
section
/- The document's states: Apply, the plain law. -/
namespace Go.Proofs.Ytijjjdljdjnbaaa
set_option maxRecDepth 100000
set_option linter.unusedVariables false
set_option linter.unusedSimpArgs false
open Go.Sx

/-- what the document's Apply does with a field -/
def rstep (a : Stt) (f : TF) (x : Stt × Bool) : Option (Stt × Bool) :=
  if f.1 = 1 then some (⟨avV a.v f.2, x.1.title, x.1.clip, x.1.clips, x.1.bells⟩, avK a.v f.2)
  else if f.1 = 2 then some (⟨x.1.v, strOfNums f.2, x.1.clip, x.1.clips, x.1.bells⟩, x.2)
  else if f.1 = 3 then (if (getS f.2 0).2.2 ≠ 0 then none else some (⟨x.1.v, x.1.title, strOfNums (f.2.drop (getS f.2 0).2.1.toNat), (getS f.2 0).1, x.1.bells⟩, x.2))
  else if f.1 = 4 then (if (getS f.2 0).2.2 ≠ 0 then none else some (⟨x.1.v, x.1.title, x.1.clip, x.1.clips, (getS f.2 0).1⟩, x.2))
  else some x
def rfold (a : Stt) : List TF → Option (Stt × Bool)
  | [] => some (a, false)
  | f :: l => (rfold a l).bind (rstep a f)
theorem rfold_none {a : Stt} : ∀ (l : List TF) (k : Nat), rfold a (l.drop k) = none → rfold a l = none
  | [], k, h => by simpa using h
  | f :: l, 0, h => h
  | f :: l, k + 1, h => by simp only [rfold, rfold_none l k h, Option.bind_none]
theorem rfold_drop {a : Stt} {l : List TF} {k : Nat} (h : k < l.length) : rfold a (l.drop k) = (rfold a (l.drop (k + 1))).bind (rstep a l[k]!) := by
  rw [List.drop_eq_getElem_cons h, getElem!_pos l k h]; rfl
def rfinP (a : Stt) (x : Stt × Bool) (bs : List Int) : Option Stt := if x.2 = true ∧ x.1.ok = true ∧ sdifB a x.1 = bs then some x.1 else none
/-- the state to which bytes are a change from a state, in the document's words -/
def rapplyV (a : Stt) (bs : List Int) : Option Stt :=
  match fieldsP bs with
  | .inl _ => none
  | .inr l => if a.ok = true then (match rfold a l with
    | none => none
    | some x => rfinP a x bs) else none
theorem toList_iff {a b : ByteArray} : a.toList = b.toList ↔ a = b := ⟨ba_ext, fun h => by rw [h]⟩
theorem rfold_four {A : Stt} {bv : View} {bt bp : ByteArray} {bn bb : Int} {d1 d2 d3 d4 : List Int} {p q r : Prop} {_ : Decidable p} {_ : Decidable q} {_ : Decidable r}
    (s1 : ∀ (x : Stt × Bool), rstep A (1, d1) x = some (⟨bv, x.1.title, x.1.clip, x.1.clips, x.1.bells⟩, true))
    (s2 : ∀ (x : Stt × Bool), rstep A (2, d2) x = some (⟨x.1.v, bt, x.1.clip, x.1.clips, x.1.bells⟩, x.2))
    (s3 : ∀ (x : Stt × Bool), rstep A (3, d3) x = some (⟨x.1.v, x.1.title, bp, bn, x.1.bells⟩, x.2))
    (s4 : ∀ (x : Stt × Bool), rstep A (4, d4) x = some (⟨x.1.v, x.1.title, x.1.clip, x.1.clips, bb⟩, x.2)) :
    rfold A ([(1, d1)] ++ (if p then [(2, d2)] else []) ++ (if q then [(3, d3)] else []) ++ (if r then [(4, d4)] else [])) =
      some (⟨bv, if p then bt else A.title, if q then bp else A.clip, if q then bn else A.clips, if r then bb else A.bells⟩, true) := by
  by_cases hp : p <;> by_cases hq : q <;> by_cases hr : r <;> simp [hp, hq, hr, rfold, s1, s2, s3, s4]
theorem rfold_dif {a b : Stt} (ka : a.ok = true) (kb : b.ok = true) (h0 : 0 ≤ b.clips) (h1 : 0 ≤ b.bells) : rfold a (sdifL a b) = some (b, true) := by
  obtain ⟨kav, _⟩ := Stt.ok_fits ka
  obtain ⟨kbv, t1, t2, t3, t4⟩ := Stt.ok_fits kb
  have e1 : avV a.v (difB a.v b.v) = b.v := by simp [avV, applyV_dif kav kbv]
  have e2 : avK a.v (difB a.v b.v) = true := by simp [avK, applyV_dif kav kbv]
  have e3 := getS_0 (v := b.clips) (numsOf b.clip) h0 (by omega)
  have e4 : getS (putL b.bells) 0 = (b.bells, (sizeS b.bells : Int), 0) := by
    have := getS_0 (v := b.bells) [] h1 (by omega)
    rwa [List.append_nil] at this
  have e5 : (putL b.clips ++ numsOf b.clip).drop (sizeS b.clips) = numsOf b.clip := by rw [← putL_len, List.drop_left]
  unfold sdifL
  obtain ⟨av, at1, ap, an, ab⟩ := a
  obtain ⟨bv, bt, bp, bn, bb⟩ := b
  dsimp only at *
  simp only [toList_iff]
  have s1 : ∀ (x : Stt × Bool), rstep ⟨av, at1, ap, an, ab⟩ (1, difB av bv) x = some (⟨bv, x.1.title, x.1.clip, x.1.clips, x.1.bells⟩, true) := fun x => by simp only [rstep, if_true, e1, e2]
  have s2 : ∀ (x : Stt × Bool), rstep ⟨av, at1, ap, an, ab⟩ (2, numsOf bt) x = some (⟨x.1.v, bt, x.1.clip, x.1.clips, x.1.bells⟩, x.2) := fun x => by simp [rstep, strOfNums_numsOf]
  have s3 : ∀ (x : Stt × Bool), rstep ⟨av, at1, ap, an, ab⟩ (3, putL bn ++ numsOf bp) x = some (⟨x.1.v, x.1.title, bp, bn, x.1.bells⟩, x.2) := fun x => by simp [rstep, e3, e5, strOfNums_numsOf]
  have s4 : ∀ (x : Stt × Bool), rstep ⟨av, at1, ap, an, ab⟩ (4, putL bb) x = some (⟨x.1.v, x.1.title, x.1.clip, x.1.clips, bb⟩, x.2) := fun x => by simp [rstep, e4]
  clear ka kb kav kbv e1 e2 e3 e4 e5 t1 t2 t3 t4
  rw [rfold_four s1 s2 s3 s4]
  by_cases c1 : at1 = bt <;> by_cases c2 : ap = bp ∧ an = bn <;> by_cases c3 : ab = bb <;> simp [c1, c2, c3, toList_iff]
theorem sapplyV_some {a c : Stt} {bs : List Int} (h : sapplyV a bs = some c) : a.ok = true ∧ c.ok = true ∧ sdifB a c = bs := by
  unfold sapplyV at h
  split at h
  · cases h
  · split at h
    · rename_i ka
      unfold sapplyL at h
      split at h
      · cases h
      · split at h
        · cases h
        · split at h
          · cases h
          · split at h
            · cases h
            · unfold sfinP at h
              split at h
              · rename_i k
                injection h with h
                subst h
                exact ⟨ka, k⟩
              · cases h
    · cases h
theorem getS_nn {d : List Int} (hd : Byt d) : 0 ≤ (getS d 0).1 := (getS_bound d hd 0).1
theorem findP_byt {bs : List Int} (hb : Byt bs) {l : List TF} (hf : fieldsP bs = .inr l) {t : Int} {d : List Int} (h : findP l t = some d) : Byt d := by
  obtain ⟨f, h1, h2⟩ := findP_in h
  exact h2 ▸ readFs_byt hb hf (fun _ h => nomatch h) f h1
theorem sapplyL_pos {a c : Stt} (ha : a.Fine) {bs : List Int} (hb : Byt bs) {l : List TF} (hf : fieldsP bs = .inr l) (h : sapplyL a l bs = some c) : 0 ≤ c.clips ∧ 0 ≤ c.bells := by
  unfold sapplyL at h
  split at h
  · cases h
  · split at h
    · cases h
    · split at h
      · cases h
      · rename_i x hx
        split at h
        · cases h
        · rename_i m hm
          unfold sfinP at h
          split at h
          · injection h with h
            subst h
            constructor
            · unfold clipP at hx
              split at hx
              · injection hx with hx; subst hx; exact ha.c0
              · rename_i d hd
                split at hx
                · cases hx
                · injection hx with hx; subst hx; exact getS_nn (findP_byt hb hf hd)
            · unfold bellsP at hm
              split at hm
              · injection hm with hm; subst hm; exact ha.b0
              · rename_i d hd
                split at hm
                · cases hm
                · injection hm with hm; subst hm; exact getS_nn (findP_byt hb hf hd)
          · cases h
theorem rstep_pos {a : Stt} {f : TF} (hf : Byt f.2) {x y : Stt × Bool} (h : rstep a f x = some y) (hx : 0 ≤ x.1.clips ∧ 0 ≤ x.1.bells) : 0 ≤ y.1.clips ∧ 0 ≤ y.1.bells := by
  have hg := getS_nn hf
  unfold rstep at h
  split at h
  · injection h with h; subst h; exact hx
  · split at h
    · injection h with h; subst h; exact hx
    · split at h
      · split at h
        · cases h
        · injection h with h; subst h; exact ⟨hg, hx.2⟩
      · split at h
        · split at h
          · cases h
          · injection h with h; subst h; exact ⟨hx.1, hg⟩
        · injection h with h; subst h; exact hx
theorem rfold_pos' {a : Stt} (ha : a.Fine) : ∀ (l : List TF) {x : Stt × Bool}, (∀ f ∈ l, Byt f.2) → rfold a l = some x → 0 ≤ x.1.clips ∧ 0 ≤ x.1.bells
  | [], x, _, h => by simp only [rfold, Option.some.injEq] at h; subst h; exact ⟨ha.c0, ha.b0⟩
  | f :: l, x, hl, h => by
    simp only [rfold] at h
    cases hr : rfold a l with
    | none => rw [hr] at h; cases h
    | some y =>
      rw [hr] at h
      exact rstep_pos (hl f (by simp)) h (rfold_pos' ha l (fun f hf => hl f (by simp [hf])) hr)
theorem rfold_pos {a : Stt} (ha : a.Fine) {bs : List Int} (hb : Byt bs) {l : List TF} (hf : fieldsP bs = .inr l) {x : Stt × Bool} (h : rfold a l = some x) : 0 ≤ x.1.clips ∧ 0 ≤ x.1.bells :=
  rfold_pos' ha l (readFs_byt hb hf (fun _ h => nomatch h)) h
theorem rapplyV_eq {a : Stt} (ha : a.Fine) {bs : List Int} (hb : Byt bs) : rapplyV a bs = sapplyV a bs := by
  cases hs : sapplyV a bs with
  | some c =>
    obtain ⟨ka, kc, hd⟩ := sapplyV_some hs
    have hf := fieldsP_dif ka kc
    rw [hd] at hf
    have hc : 0 ≤ c.clips ∧ 0 ≤ c.bells := by
      unfold sapplyV at hs
      rw [hf] at hs
      dsimp only at hs
      rw [if_pos ka] at hs
      exact sapplyL_pos ha hb hf hs
    unfold rapplyV
    rw [hf]
    dsimp only
    rw [if_pos ka, rfold_dif ka kc hc.1 hc.2]
    dsimp only
    unfold rfinP
    rw [if_pos ⟨rfl, kc, hd⟩]
  | none =>
    unfold rapplyV
    cases hf : fieldsP bs with
    | inl e => rfl
    | inr l =>
      dsimp only
      by_cases ka : a.ok = true
      · rw [if_pos ka]
        cases hr : rfold a l with
        | none => rfl
        | some x =>
          dsimp only
          unfold rfinP
          by_cases hx : x.2 = true ∧ x.1.ok = true ∧ sdifB a x.1 = bs
          · exfalso
            have hp := rfold_pos ha hb hf hr
            have := sapplyV_dif ka hx.2.1 hp.1 hp.2
            rw [hx.2.2, hs] at this
            cases this
          · rw [if_neg hx]
      · rw [if_neg ka]
end Go.Proofs.Ytijjjdljdjnbaaa
end
section
/- The document's states: Apply, the walk. -/
namespace Go.Proofs.Ytijjjdljdjnbaaa
set_option maxRecDepth 100000
set_option linter.unusedVariables false
set_option linter.unusedSimpArgs false
open Go.Sx

theorem avV_cols {a : View} {bs : List Int} (hb : Byt bs) (hc : ∀ c ∈ a.cells, c.Cols) : ∀ c ∈ (avV a bs).cells, c.Cols := by
  unfold avV applyV
  cases hr : runsP bs with
  | none => simp [View.none]
  | some rs =>
    dsimp only
    split
    · simp [View.none]
    · split
      · exact applyL_cols rs _ 0 (baseC_cols hc _ _) (runsP_cols hb hr)
      · simp [View.none]
/-- where the document's Apply stands -/
structure RA where
  k : Nat
  x : Stt
  f : Bool
  ap : Bool
  a : Option Addr
  m : Nat
  c : Nat
  wa : Option Addr
  wm : Nat
  wc : Nat
  l : List Cell
structure RA.Ok (a : Stt) (rs : List TF) (g : RA) : Prop where
  k : g.k ≤ rs.length
  r : rfold a (rs.drop g.k) = some (g.x, g.f)
  yes : g.ap = true → g.a = g.wa ∧ g.m = g.wm ∧ g.c = g.wc ∧ g.l = g.x.v.cells
  no : g.ap = false → g.f = false
  fl : ∀ c ∈ g.x.v.cells, c.Fl
  cols : ∀ c ∈ g.x.v.cells, c.Cols
  c0 : 0 ≤ g.x.clips
  b0 : 0 ≤ g.x.bells
set_option maxHeartbeats 6400000 in
theorem rapply22_ok (E : Env) (a : Stt) (s b : Value) (bs : List Int) (ha : a.v.rhas E [] s) (h : Sl E [] 1 b bs.length (bs.map (.int .u8))) (hb : Byt bs) (hmax : bs.length ≤ 100000) (fa : a.Fine) (ca : ∀ c ∈ a.v.cells, c.Cols) : Does Try.prog 48 #[a.val s, b] E [] fun r H' =>
    match sapplyV a bs with
    | some v => ∃ s, r = .tuple #[v.val s, .bool true] ∧ H' = [osl 65 11 s v.v.cells.length (v.v.cells.flatMap Cell.renc)]
    | none => r = .tuple #[Stt.none.val (.slice none 0 0), .bool false] ∧ H' = [] := by
  rw [← rapplyV_eq fa hb]
  have hR := fun (E' : Env) (le : Env.Le E E') => rfields_ok E E' le b bs h hb hmax
  unfold View.rhas at ha
  refine Does.pure ha.isSl fun hs => ?_
  obtain ⟨sa, sm, sc, rfl⟩ := hs
  have hA : ∀ (E' : Env), Env.Le E E' → ∀ (d : Value) (ds : List Int), Sl E' [] 1 d ds.length (ds.map (.int .u8)) → Byt ds → ds.length ≤ 100000 → Does Try.prog 21 #[(View.mk a.v.rows a.v.cols a.v.cells a.v.row a.v.col a.v.vis).val (.slice sa sm sc), d] E' [] fun r H' => ∃ (z1 : Option Addr) (z2 z3 : Nat), r = .tuple #[(avV a.v ds).val (.slice z1 z2 z3), .bool (avK a.v ds)] ∧ H' = [osl 65 11 (.slice z1 z2 z3) (avV a.v ds).cells.length ((avV a.v ds).cells.flatMap Cell.renc)] :=
    fun E' le d ds h1 h2 h3 => rapply_any E' a.v _ _ _ (Sl.mono ha le) h1 h2 h3 fa.fl ca
  have hRight : ∀ (E' : Env), Env.Le E E' → Does Try.prog 43 #[a.val (.slice sa sm sc)] E' [] fun r H' => r = .bool a.ok ∧ H' = [] := fun E' le => rright22_ok E' a _ (Sl.mono ha le) ca
  refine Does.go (args := [a.val (.slice sa sm sc), b]) _ _ Try.func48 rfl Try.ntmps48 rfl rfl ?_
  unfold rapplyV
  cases hr : fieldsP bs with
  | inl e =>
    rw [hr] at hR
    dsimp only at hR ⊢
    have he : e ≠ 0 := readFs_ne hr (by omega)
    refine Body.seq ?_
    refine Body.region ?_
    refine Ops.s (Stp.box (lk rfl) rfl (fun b2 => ?_)) rfl
    refine Ops.s (Stp.alloc ty80 (fun b4 => ?_)) rfl
    refine Ops.u (Dtu.asg (lk rfl)) rfl ?_
    refine Ops.nil ?_
    refine Then.next ?_
    refine Body.seq ?_
    refine Body.region ?_
    refine Ops.u (Dtu.mv (lk rfl)) rfl ?_
    refine Ops.s (Stp.call rfl Try.call90 (lks rfl) (fun E' le hat => hR E' le) ?_) rfl
    rintro _ _ ⟨rfl, rfl⟩
    refine Ops.u (Dtu.mv (lk rfl)) rfl ?_
    refine Ops.u (Dtu.ext (lk rfl) rfl) rfl ?_
    refine Ops.u (Dtu.ext (lk rfl) rfl) rfl ?_
    refine Ops.u (Dtu.asg (lk rfl)) rfl ?_
    refine Ops.u (Dtu.asg (lk rfl)) rfl ?_
    refine Ops.nil ?_
    refine Then.next ?_
    refine Body.seq ?_
    refine Body.seq ?_
    refine Body.region ?_
    refine Ops.u (Dtu.mv (lk rfl)) rfl ?_
    refine Ops.u (Dtu.neq (lk rfl) (lk rfl)) rfl ?_
    refine Ops.u (Dtu.mv (lk rfl)) rfl ?_
    refine Ops.decP 26 rfl (fun _ => ?_) (fun hn => absurd (by first | omega | assumption | decide) hn)
    refine Ops.gn rfl rfl rfl rfl rfl ?_
    refine Ops.gn rfl rfl rfl rfl rfl ?_
    refine Ops.gn rfl rfl rfl rfl rfl ?_
    refine Ops.u (Dtu.pickT (lk rfl) (lk rfl)) rfl ?_
    refine Ops.nil ?_
    refine Then.next ?_
    refine Body.condT (lk rfl) ?_
    refine Body.seq ?_
    refine Body.region ?_
    refine Ops.u (Dtu.build ty80 pl80 (lkp rfl) rfl rfl) rfl ?_
    refine Ops.e (Stp.store 0 Try.sizeOf80 (lk rfl) (lk rfl) rfl rfl rfl rfl rfl rfl rfl ?_)
    refine Ops.u (Dtu.asg (lk rfl)) rfl ?_
    refine Ops.nil ?_
    refine Then.next ?_
    refine Body.ret ?_
    refine Then.ret ?_
    exact ⟨.inr rfl, _, Loads.agg Try.isAgg80 Try.sizeOf80 (Rds.ow (m := 10) 0 rfl rfl) rfl, _, pk [] rfl, rfl, rfl⟩
  | inr rs =>
    rw [hr] at hR
    dsimp only at hR ⊢
    have hlens := readFs_lens hr (fun _ h => nomatch h)
    have hbyt := readFs_byt hb hr (fun _ h => nomatch h)
    refine Body.seq ?_
    refine Body.region ?_
    refine Ops.s (Stp.box (lk rfl) rfl (fun b2 => ?_)) rfl
    refine Ops.s (Stp.alloc ty80 (fun b4 => ?_)) rfl
    refine Ops.u (Dtu.asg (lk rfl)) rfl ?_
    refine Ops.nil ?_
    refine Then.next ?_
    refine Body.seq ?_
    refine Body.region ?_
    refine Ops.u (Dtu.mv (lk rfl)) rfl ?_
    refine Ops.s (Stp.call rfl Try.call90 (lks rfl) (fun E' le hat => hR E' le) ?_) rfl
    rintro _ _ ⟨l1, l2, l3, L, rfl, rfl, hL0, hL⟩
    cases hk : a.ok with
    | false =>
      rw [hk] at hRight
      refine Ops.u (Dtu.mv (lk rfl)) rfl ?_
      refine Ops.u (Dtu.ext (lk rfl) rfl) rfl ?_
      refine Ops.u (Dtu.ext (lk rfl) rfl) rfl ?_
      refine Ops.u (Dtu.asg (lk rfl)) rfl ?_
      refine Ops.u (Dtu.asg (lk rfl)) rfl ?_
      refine Ops.nil ?_
      refine Then.next ?_
      refine Body.seq ?_
      refine Body.seq ?_
      refine Body.region ?_
      refine Ops.u (Dtu.mv (lk rfl)) rfl ?_
      refine Ops.u (Dtu.neq (lk rfl) (lk rfl)) rfl ?_
      refine Ops.u (Dtu.mv (lk rfl)) rfl ?_
      refine Ops.decP 26 rfl (fun hy => absurd hy (by first | omega | assumption | decide)) (fun _ => ?_)
      refine Ops.gd rfl rfl rfl (Det.lda Try.isAgg80 Try.sizeOf80 (lk rfl) (Rds.ow (m := 10) 2 rfl rfl) rfl) rfl ?_
      refine Ops.gs rfl rfl rfl (Stp.call rfl Try.call43 (lks rfl) (fun E' le hat => hRight E' le) ?_) rfl
      rintro _ _ ⟨rfl, rfl⟩
      refine Ops.gu rfl rfl rfl (Dtu.not (lk rfl)) rfl ?_
      refine Ops.u (Dtu.pickF (lk rfl) (lk rfl)) rfl ?_
      refine Ops.nil ?_
      refine Then.next ?_
      refine Body.condT (lk rfl) ?_
      refine Body.seq ?_
      refine Body.region ?_
      refine Ops.u (Dtu.build ty80 pl80 (lkp rfl) rfl rfl) rfl ?_
      refine Ops.e (Stp.store 1 Try.sizeOf80 (lk rfl) (lk rfl) rfl rfl rfl rfl rfl rfl rfl ?_)
      refine Ops.u (Dtu.asg (lk rfl)) rfl ?_
      refine Ops.nil ?_
      refine Then.next ?_
      refine Body.ret ?_
      refine Then.ret ?_
      exact ⟨.inr rfl, _, Loads.agg Try.isAgg80 Try.sizeOf80 (Rds.ow (m := 10) 1 rfl rfl) rfl, _, pk [] rfl, rfl, rfl⟩
    | true =>
      rw [hk] at hRight
      refine Ops.u (Dtu.mv (lk rfl)) rfl ?_
      refine Ops.u (Dtu.ext (lk rfl) rfl) rfl ?_
      refine Ops.u (Dtu.ext (lk rfl) rfl) rfl ?_
      refine Ops.u (Dtu.asg (lk rfl)) rfl ?_
      refine Ops.u (Dtu.asg (lk rfl)) rfl ?_
      refine Ops.nil ?_
      refine Then.next ?_
      refine Body.seq ?_
      refine Body.seq ?_
      refine Body.region ?_
      refine Ops.u (Dtu.mv (lk rfl)) rfl ?_
      refine Ops.u (Dtu.neq (lk rfl) (lk rfl)) rfl ?_
      refine Ops.u (Dtu.mv (lk rfl)) rfl ?_
      refine Ops.decP 26 rfl (fun hy => absurd hy (by first | omega | assumption | decide)) (fun _ => ?_)
      refine Ops.gd rfl rfl rfl (Det.lda Try.isAgg80 Try.sizeOf80 (lk rfl) (Rds.ow (m := 10) 2 rfl rfl) rfl) rfl ?_
      refine Ops.gs rfl rfl rfl (Stp.call rfl Try.call43 (lks rfl) (fun E' le hat => hRight E' le) ?_) rfl
      rintro _ _ ⟨rfl, rfl⟩
      refine Ops.pure (Sl.len (Sl.osl 0 rfl)) fun hlen => ?_
      have hw : IntKind.i64.wrap ((L.length : Int) - 1) = (L.length : Int) - 1 := w64 (by omega) (by omega)
      have hLl : L.length = rs.length := by rw [← hL, List.length_map]
      have hin : ∀ i, i < L.length → Sl E [] 1 (.slice L[i]!.a L[i]!.m L[i]!.c) rs[i]!.2.length (rs[i]!.2.map (.int .u8)) ∧ L[i]!.tag = rs[i]!.1 ∧ rs[i]! ∈ rs := fun i hi => by
        have h1 : rs[i]! = L[i]!.tf := by rw [getElem!_pos rs i (by omega), getElem!_pos L i hi]; simp [← hL]
        refine ⟨by rw [h1]; exact hL0 _ (by rw [getElem!_pos L i hi]; exact List.getElem_mem _), by rw [h1]; rfl, by rw [getElem!_pos rs i (by omega)]; exact List.getElem_mem _⟩
      refine Ops.gu rfl rfl rfl (Dtu.not (lk rfl)) rfl ?_
      refine Ops.u (Dtu.pickF (lk rfl) (lk rfl)) rfl ?_
      refine Ops.nil ?_
      refine Then.next ?_
      refine Body.condF (lk rfl) ?_
      refine Body.skip ?_
      refine Then.next ?_
      refine Body.seq ?_
      refine Body.region ?_
      refine Ops.d (Det.lda Try.isAgg80 Try.sizeOf80 (lk rfl) (Rds.ow (m := 10) 2 rfl rfl) rfl) rfl ?_
      refine Ops.s (Stp.alloc ty80 (fun b8 => ?_)) rfl
      refine Ops.e (Stp.store 0 Try.sizeOf80 (lk rfl) (lk rfl) rfl rfl rfl rfl rfl rfl rfl ?_)
      refine Ops.u (Dtu.asg (lk rfl)) rfl ?_
      refine Ops.nil ?_
      refine Then.next ?_
      refine Body.seq ?_
      refine Body.seq ?_
      refine Body.region ?_
      refine Ops.u (Dtu.mv (lk rfl)) rfl ?_
      refine Ops.u (Dtu.lenS Try.underlying149 (Sl.osl 1 rfl) (lk rfl)) rfl ?_
      refine Ops.u (Dtu.sub (lk rfl) (lk rfl) (by with_reducible assumption)) rfl ?_
      refine Ops.u (Dtu.asg (lk rfl)) rfl ?_
      refine Ops.nil ?_
      refine Then.next ?_
      refine Body.block ?_
      refine Body.conseq (H' := [own b8 (a.cells (.slice sa sm sc)) 80, osl 65 11 (.slice none 0 0) 0 [], own b4 [.int .i64 0, .int .i64 0, .slice none 0 0, .int .i64 0, .int .i64 0, .bool false, .string ⟨#[]⟩, .string ⟨#[]⟩, .int .u64 0, .int .u64 0] 80, osl 152 2 (.slice l1 l2 l3) L.length (L.flatMap Fld.enc), own b2 (a.cells (.slice sa sm sc)) 80]) (fun w s => pk [1, 0, 1, 0, 0] rfl w (osl_nil s)) ?_
      refine Body.loopF (γ := RA) rfl (fun g => [(10, .int .i64 ((g.k : Int) - 1)), (9, .bool g.f)]) (fun g => [own b8 (g.x.cells (.slice g.a g.m g.c)) 80, osl 65 11 (.slice g.wa g.wm g.wc) g.l.length (g.l.flatMap Cell.renc), own b4 [.int .i64 0, .int .i64 0, .slice none 0 0, .int .i64 0, .int .i64 0, .bool false, .string ⟨#[]⟩, .string ⟨#[]⟩, .int .u64 0, .int .u64 0] 80, osl 152 2 (.slice l1 l2 l3) L.length (L.flatMap Fld.enc), own b2 (a.cells (.slice sa sm sc)) 80]) (RA.Ok a rs) (fun g => g.k) ⟨rs.length, a, false, false, sa, sm, sc, none, 0, 0, []⟩ ⟨Nat.le_refl _, by rw [List.drop_length]; rfl, (fun h => nomatch h), (fun _ => rfl), fa.fl, ca, fa.c0, fa.b0⟩ ⟨by dsimp only; rw [← hLl, ← hw]; rfl, rfl, trivial⟩ rfl ?_
      rintro ⟨k, x, f, ap, xa, xm, xc, wa, wm, wc, l⟩ u ⟨gk, gr, gy, gn, gf, gc, g0, g1⟩
      dsimp only at gk gr gy gn gf gc g0 g1 ⊢
      refine Body.seq ?_
      refine Body.seq ?_
      refine Body.region ?_
      refine Ops.u (Dtu.mv (lk rfl)) rfl ?_
      refine Ops.u (Dtu.geq (lk rfl) (lk rfl)) rfl ?_
      refine Ops.nil ?_
      refine Then.next ?_
      refine Body.condP (lk rfl) (fun c37 => ?_) (fun c37 => ?_)
      · obtain ⟨k, rfl⟩ : ∃ k', k = k' + 1 := ⟨k - 1, by omega⟩
        obtain ⟨i1, i2, i3⟩ := hin k (by omega)
        have dl := hlens _ i3
        have db := hbyt _ i3
        have hst := rfold_drop (a := a) (l := rs) (k := k) (by omega)
        rw [gr, Option.bind_some] at hst
        have hk1 : ((k + 1 : Nat) : Int) - 1 = (k : Int) := by omega
        rw [hk1]
        generalize hds : rs[k]!.2 = ds at *
        refine Body.skip ?_
        refine Then.next ?_
        refine Body.seq ?_
        refine Body.block ?_
        refine Body.seq ?_
        refine Body.region ?_
        refine Ops.u (Dtu.mv (lk rfl)) rfl ?_
        refine Ops.u (Dtu.mv (lk rfl)) rfl ?_
        refine Ops.u (Dtu.ix (i := (k)) Try.underlying149 Try.sizeOf152 (Sl.osl 3 rfl) (lk rfl) (lk rfl) (by omega) (by omega)) rfl ?_
        refine Ops.u (Dtu.fld fa152_0 (lk rfl)) rfl ?_
        refine Ops.d (Det.ld Try.isAgg5 (lk rfl) (Rd.sl2 (Sl.osl 3 rfl) (gfe (sz := 2) (fun _ => rfl) (by omega) rfl))) rfl ?_
        refine Ops.nil ?_
        refine Then.next ?_
        refine Body.block ?_
        refine Body.seq ?_
        refine Body.region ?_
        refine Ops.u (Dtu.eql (lk rfl) (lk rfl)) rfl ?_
        refine Ops.u (Dtu.asg (lk rfl)) rfl ?_
        refine Ops.nil ?_
        refine Then.next ?_
        refine Body.condP (lk rfl) (fun c45 => ?_) (fun c45 => ?_)
        · -- a view
          have e1 : rs[k]!.1 = 1 := by omega
          have hs1 : rstep a rs[k]! (x, f) = some (⟨avV a.v ds, x.title, x.clip, x.clips, x.bells⟩, avK a.v ds) := by unfold rstep; rw [if_pos e1, hds]
          refine Body.seq ?_
          refine Body.draw mixed ?_
          refine AB.u 0 rfl (by decide +kernel) (Dtu.fld fa80_0 (lk rfl)) rfl ?_
          refine AB.d 1 rfl (by decide +kernel) rfl (Det.lda Try.isAgg30 Try.sizeOf30 (lk rfl) (Rds.ow (m := 6) 4 rfl rfl) rfl) rfl ?_
          refine AB.u 2 rfl (by decide +kernel) (Dtu.mv (lk rfl)) rfl ?_
          refine AB.u 3 rfl (by decide +kernel) (Dtu.mv (lk rfl)) rfl ?_
          refine AB.u 4 rfl (by decide +kernel) (Dtu.ix (i := (k)) Try.underlying149 Try.sizeOf152 (Sl.osl 3 rfl) (lk rfl) (lk rfl) (by omega) (by omega)) rfl ?_
          refine AB.u 5 rfl (by decide +kernel) (Dtu.fld fa152_1 (lk rfl)) rfl ?_
          refine AB.d 6 rfl (by decide +kernel) rfl (Det.ld Try.isAgg32 (lk rfl) (Rd.sl2 (Sl.osl 3 rfl) (gfe (sz := 2) (fun _ => rfl) (by omega) rfl))) rfl ?_
          refine AB.more [7, 11] (by decide +kernel) rfl ⟨?_, ?_, trivial⟩
          · refine ABI.s rfl (by decide +kernel) (Stp.call rfl Try.call21 (lks rfl) (fun E' le hat => hA E' le _ ds (Sl.mono i1 le) db (by omega)) ?_) rfl
            rintro _ _ ⟨z1, z2, z3, rfl, rfl⟩
            refine AB.u 8 rfl (by decide +kernel) (Dtu.mv (lk rfl)) rfl ?_
            refine AB.u 9 rfl (by decide +kernel) (Dtu.ext (lk rfl) rfl) rfl ?_
            refine AB.u 10 rfl (by decide +kernel) (Dtu.ext (lk rfl) rfl) rfl ?_
            refine AB.s 11 rfl (by decide +kernel) (by decide +kernel) (Stp.alloc ty30 (fun b11 => ?_)) rfl
            refine AB.e 12 rfl (by decide +kernel) (by decide +kernel) (Stp.store 0 Try.sizeOf30 (lk rfl) (lk rfl) rfl rfl rfl rfl rfl rfl rfl ?_)
            refine AB.u 13 rfl (by decide +kernel) (Dtu.asg (lk rfl)) rfl ?_
            refine AB.done (by decide +kernel) ?_
            refine Then.next ?_
            refine Body.region ?_
            refine Ops.d (Det.lda Try.isAgg30 Try.sizeOf30 (lk rfl) (Rds.ow (m := 6) 0 rfl rfl) rfl) rfl ?_
            refine Ops.u (Dtu.mv (lk rfl)) rfl ?_
            refine Ops.u (Dtu.fld fa80_0 (lk rfl)) rfl ?_
            refine Ops.e (Stp.store 2 Try.sizeOf30 (lk rfl) (lk rfl) rfl rfl rfl rfl rfl rfl rfl ?_)
            refine Ops.u (Dtu.asg (lk rfl)) rfl ?_
            refine Ops.nil ?_
            refine Blk.norm ?_
            refine Blk.norm ?_
            refine Then.next ?_
            refine Body.region ?_
            refine Ops.u (Dtu.mv (lk rfl)) rfl ?_
            refine Ops.u (Dtu.sub (lk rfl) (lk rfl) (w64 (by omega) (by omega))) rfl ?_
            refine Ops.u (Dtu.asg (lk rfl)) rfl ?_
            refine Ops.nil ?_
            refine Round.goK [2, 1, 2, 2, 2] ⟨k, ⟨avV a.v ds, x.title, x.clip, x.clips, x.bells⟩, avK a.v ds, true, z1, z2, z3, z1, z2, z3, (avV a.v ds).cells⟩ rfl rfl rfl ⟨rfl, rfl, trivial⟩ rfl rfl ⟨by dsimp only; omega, hst.trans hs1, (fun _ => ⟨rfl, rfl, rfl, rfl⟩), (fun h => nomatch h), avV_fl db fa.fl, avV_cols db ca, g0, g1⟩ (by dsimp only; omega)
          · refine ABI.s rfl (by decide +kernel) (Stp.alloc ty30 (fun b11 => ?_)) rfl
            refine AB.s 7 rfl (by decide +kernel) (by decide +kernel) (Stp.call rfl Try.call21 (lks rfl) (fun E' le hat => hA E' le _ ds (Sl.mono i1 le) db (by omega)) ?_) rfl
            rintro _ _ ⟨z1, z2, z3, rfl, rfl⟩
            refine AB.u 8 rfl (by decide +kernel) (Dtu.mv (lk rfl)) rfl ?_
            refine AB.u 9 rfl (by decide +kernel) (Dtu.ext (lk rfl) rfl) rfl ?_
            refine AB.u 10 rfl (by decide +kernel) (Dtu.ext (lk rfl) rfl) rfl ?_
            refine AB.e 12 rfl (by decide +kernel) (by decide +kernel) (Stp.store 1 Try.sizeOf30 (lk rfl) (lk rfl) rfl rfl rfl rfl rfl rfl rfl ?_)
            refine AB.u 13 rfl (by decide +kernel) (Dtu.asg (lk rfl)) rfl ?_
            refine AB.done (by decide +kernel) ?_
            refine Then.next ?_
            refine Body.region ?_
            refine Ops.d (Det.lda Try.isAgg30 Try.sizeOf30 (lk rfl) (Rds.ow (m := 6) 1 rfl rfl) rfl) rfl ?_
            refine Ops.u (Dtu.mv (lk rfl)) rfl ?_
            refine Ops.u (Dtu.fld fa80_0 (lk rfl)) rfl ?_
            refine Ops.e (Stp.store 2 Try.sizeOf30 (lk rfl) (lk rfl) rfl rfl rfl rfl rfl rfl rfl ?_)
            refine Ops.u (Dtu.asg (lk rfl)) rfl ?_
            refine Ops.nil ?_
            refine Blk.norm ?_
            refine Blk.norm ?_
            refine Then.next ?_
            refine Body.region ?_
            refine Ops.u (Dtu.mv (lk rfl)) rfl ?_
            refine Ops.u (Dtu.sub (lk rfl) (lk rfl) (w64 (by omega) (by omega))) rfl ?_
            refine Ops.u (Dtu.asg (lk rfl)) rfl ?_
            refine Ops.nil ?_
            refine Round.goK [2, 0, 2, 2, 2] ⟨k, ⟨avV a.v ds, x.title, x.clip, x.clips, x.bells⟩, avK a.v ds, true, z1, z2, z3, z1, z2, z3, (avV a.v ds).cells⟩ rfl rfl rfl ⟨rfl, rfl, trivial⟩ rfl rfl ⟨by dsimp only; omega, hst.trans hs1, (fun _ => ⟨rfl, rfl, rfl, rfl⟩), (fun h => nomatch h), avV_fl db fa.fl, avV_cols db ca, g0, g1⟩ (by dsimp only; omega)
        · refine Body.seq ?_
          refine Body.region ?_
          refine Ops.u (Dtu.eql (lk rfl) (lk rfl)) rfl ?_
          refine Ops.u (Dtu.asg (lk rfl)) rfl ?_
          refine Ops.nil ?_
          refine Then.next ?_
          refine Body.condP (lk rfl) (fun c61 => ?_) (fun c61 => ?_)
          · -- a title
            have e1 : rs[k]!.1 = 2 := by omega
            have hs1 : rstep a rs[k]! (x, f) = some (⟨x.v, strOfNums ds, x.clip, x.clips, x.bells⟩, f) := by unfold rstep; rw [if_neg (by omega), if_pos e1, hds]
            refine Body.region ?_
            refine Ops.u (Dtu.mv (lk rfl)) rfl ?_
            refine Ops.u (Dtu.mv (lk rfl)) rfl ?_
            refine Ops.u (Dtu.ix (i := (k)) Try.underlying149 Try.sizeOf152 (Sl.osl 3 rfl) (lk rfl) (lk rfl) (by omega) (by omega)) rfl ?_
            refine Ops.u (Dtu.fld fa152_1 (lk rfl)) rfl ?_
            refine Ops.d (Det.ld Try.isAgg32 (lk rfl) (Rd.sl2 (Sl.osl 3 rfl) (gfe (sz := 2) (fun _ => rfl) (by omega) rfl))) rfl ?_
            refine Ops.d (Det.bstr Try.underlying32 Try.underlying5 Try.underlying9 (lk rfl) (Sl.up i1)) rfl ?_
            refine Ops.u (Dtu.fld fa80_1 (lk rfl)) rfl ?_
            refine Ops.e (Stp.store 0 Try.sizeOf9 (lk rfl) (lk rfl) rfl rfl rfl rfl rfl rfl rfl ?_)
            refine Ops.nil ?_
            refine Blk.norm ?_
            refine Blk.norm ?_
            refine Then.next ?_
            refine Body.region ?_
            refine Ops.u (Dtu.mv (lk rfl)) rfl ?_
            refine Ops.u (Dtu.sub (lk rfl) (lk rfl) (w64 (by omega) (by omega))) rfl ?_
            refine Ops.u (Dtu.asg (lk rfl)) rfl ?_
            refine Ops.nil ?_
            refine Round.goK [0, 0, 0, 0, 0] ⟨k, ⟨x.v, strOfNums ds, x.clip, x.clips, x.bells⟩, f, ap, xa, xm, xc, wa, wm, wc, l⟩ rfl rfl rfl ⟨rfl, rfl, trivial⟩ rfl rfl ⟨by dsimp only; omega, hst.trans hs1, gy, gn, gf, gc, g0, g1⟩ (by dsimp only; omega)
          · refine Body.seq ?_
            refine Body.region ?_
            refine Ops.u (Dtu.eql (lk rfl) (lk rfl)) rfl ?_
            refine Ops.u (Dtu.asg (lk rfl)) rfl ?_
            refine Ops.nil ?_
            refine Then.next ?_
            refine Body.condP (lk rfl) (fun c70 => ?_) (fun c70 => ?_)
            · -- a clipping
              have e1 : rs[k]!.1 = 3 := by omega
              have q1 := getS_bound ds db 0
              have q2 := getS_next ds 0
              refine Body.seq ?_
              refine Body.region ?_
              refine Ops.u (Dtu.mv (lk rfl)) rfl ?_
              refine Ops.u (Dtu.mv (lk rfl)) rfl ?_
              refine Ops.u (Dtu.ix (i := (k)) Try.underlying149 Try.sizeOf152 (Sl.osl 3 rfl) (lk rfl) (lk rfl) (by omega) (by omega)) rfl ?_
              refine Ops.u (Dtu.fld fa152_1 (lk rfl)) rfl ?_
              refine Ops.d (Det.ld Try.isAgg32 (lk rfl) (Rd.sl2 (Sl.osl 3 rfl) (gfe (sz := 2) (fun _ => rfl) (by omega) rfl))) rfl ?_
              refine Ops.s (Stp.call rfl Try.call66 (lks rfl) (fun E' le hat => rget_ok E' _ _ _ (Sl.mono (by assumption) le) (by assumption)) ?_) rfl
              rintro _ _ ⟨rfl, rfl⟩
              refine Ops.u (Dtu.mv (lk rfl)) rfl ?_
              refine Ops.u (Dtu.ext (lk rfl) rfl) rfl ?_
              refine Ops.u (Dtu.ext (lk rfl) rfl) rfl ?_
              refine Ops.u (Dtu.ext (lk rfl) rfl) rfl ?_
              refine Ops.u (Dtu.asg (lk rfl)) rfl ?_
              refine Ops.u (Dtu.asg (lk rfl)) rfl ?_
              refine Ops.u (Dtu.asg (lk rfl)) rfl ?_
              refine Ops.nil ?_
              refine Then.next ?_
              refine Body.seq ?_
              refine Body.seq ?_
              refine Body.region ?_
              refine Ops.u (Dtu.mv (lk rfl)) rfl ?_
              refine Ops.u (Dtu.neq (lk rfl) (lk rfl)) rfl ?_
              refine Ops.nil ?_
              refine Then.next ?_
              refine Body.condP (lk rfl) (fun c83 => ?_) (fun c83 => ?_)
              · have hs1 : rstep a rs[k]! (x, f) = none := by unfold rstep; rw [if_neg (by omega), if_neg (by omega), if_pos e1, hds, if_pos (by assumption)]
                have hn := rfold_none rs k (hst.trans hs1)
                rw [hn]
                refine Body.seq ?_
                refine Body.region ?_
                refine Ops.u (Dtu.build ty80 pl80 (lkp rfl) rfl rfl) rfl ?_
                refine Ops.e (Stp.store 2 Try.sizeOf80 (lk rfl) (lk rfl) rfl rfl rfl rfl rfl rfl rfl ?_)
                refine Ops.u (Dtu.asg (lk rfl)) rfl ?_
                refine Ops.nil ?_
                refine Then.next ?_
                refine Body.ret ?_
                refine Then.ret ?_
                refine Blk.ret ?_
                refine Blk.ret ?_
                refine Then.ret ?_
                refine Round.ret ?_
                refine Blk.ret ?_
                refine Then.ret ?_
                exact ⟨.inr rfl, _, Loads.agg Try.isAgg80 Try.sizeOf80 (Rds.ow (m := 10) 2 rfl rfl) rfl, _, pk [] rfl, rfl, rfl⟩
              · have q3 := q2 (by omega)
                obtain ⟨q, hq⟩ := Int.eq_ofNat_of_zero_le (show 0 ≤ (getS ds 0).2.1 by omega)
                have hs1 : rstep a rs[k]! (x, f) = some (⟨x.v, x.title, strOfNums (ds.drop q), (getS ds 0).1, x.bells⟩, f) := by unfold rstep; rw [if_neg (by omega), if_neg (by omega), if_pos e1, hds, if_neg (by assumption), hq, Int.toNat_natCast]
                rw [hq]
                have hql : q ≤ ds.length := by omega
                rw [← List.take_of_length_le (show (ds.drop q).length ≤ ds.length - q by simp)] at hs1
                refine Body.skip ?_
                refine Then.next ?_
                refine Body.drawW mixed ?_
                refine AW.u 0 rfl (by decide +kernel) (Dtu.mv (lk rfl)) rfl ?_
                refine AW.u 1 rfl (by decide +kernel) (Dtu.mv (lk rfl)) rfl ?_
                refine AW.u 2 rfl (by decide +kernel) (Dtu.mv (lk rfl)) rfl ?_
                refine AW.u 3 rfl (by decide +kernel) (Dtu.ix (i := (k)) Try.underlying149 Try.sizeOf152 (Sl.osl 3 rfl) (lk rfl) (lk rfl) (by omega) (by omega)) rfl ?_
                refine AW.u 4 rfl (by decide +kernel) (Dtu.fld fa152_1 (lk rfl)) rfl ?_
                refine AW.u 6 rfl (by decide +kernel) (Dtu.mv (lk rfl)) rfl ?_
                refine AW.u 9 rfl (by decide +kernel) (Dtu.fld fa80_3 (lk rfl)) rfl ?_
                refine AW.more [5, 10] (by decide +kernel) rfl ⟨?_, ?_, trivial⟩
                · refine AWI.d rfl (Det.ld Try.isAgg32 (lk rfl) (Rd.sl2 (Sl.osl 3 rfl) (gfe (sz := 2) (fun _ => rfl) (by omega) rfl))) rfl ?_
                  refine AW.u 7 rfl (by decide +kernel) (Dtu.slL (q) Try.underlying32 Try.sizeOf5 (Sl.up i1) (lk rfl) (lk rfl) (by omega) (by omega)) rfl ?_
                  refine AW.more [8, 10] (by decide +kernel) rfl ⟨?_, ?_, trivial⟩
                  · refine AWI.d rfl (Det.bstr Try.underlying32 Try.underlying5 Try.underlying9 (lk rfl) (Sl.subM (Sl.up i1) _ _ (by omega) (by omega))) rfl ?_
                    refine AW.more [10] (by decide +kernel) rfl ⟨?_, trivial⟩
                    refine AWI.e rfl (Stp.store 0 Try.sizeOf75 (lk rfl) (lk rfl) rfl rfl rfl rfl rfl rfl rfl ?_)
                    refine AW.u 11 rfl (by decide +kernel) (Dtu.fld fa80_2 (lk rfl)) rfl ?_
                    refine AW.more [12] (by decide +kernel) rfl ⟨?_, trivial⟩
                    refine AWI.e rfl (Stp.store 0 Try.sizeOf9 (lk rfl) (lk rfl) rfl rfl rfl rfl rfl rfl rfl ?_)
                    refine AW.done (by decide +kernel) ?_
                    refine Blk.norm ?_
                    refine Blk.norm ?_
                    refine Then.next ?_
                    refine Body.region ?_
                    refine Ops.u (Dtu.mv (lk rfl)) rfl ?_
                    refine Ops.u (Dtu.sub (lk rfl) (lk rfl) (w64 (by omega) (by omega))) rfl ?_
                    refine Ops.u (Dtu.asg (lk rfl)) rfl ?_
                    refine Ops.nil ?_
                    refine Round.goK [0, 0, 0, 0, 0] ⟨k, ⟨x.v, x.title, strOfNums ((ds.drop q).take (ds.length - q)), (getS ds 0).1, x.bells⟩, f, ap, xa, xm, xc, wa, wm, wc, l⟩ rfl rfl rfl ⟨rfl, rfl, trivial⟩ rfl rfl ⟨by dsimp only; omega, hst.trans hs1, gy, gn, gf, gc, q1.1, g1⟩ (by dsimp only; omega)
                  · refine AWI.e rfl (Stp.store 0 Try.sizeOf75 (lk rfl) (lk rfl) rfl rfl rfl rfl rfl rfl rfl ?_)
                    refine AW.more [8] (by decide +kernel) rfl ⟨?_, trivial⟩
                    refine AWI.d rfl (Det.bstr Try.underlying32 Try.underlying5 Try.underlying9 (lk rfl) (Sl.subM (Sl.up i1) _ _ (by omega) (by omega))) rfl ?_
                    refine AW.u 11 rfl (by decide +kernel) (Dtu.fld fa80_2 (lk rfl)) rfl ?_
                    refine AW.more [12] (by decide +kernel) rfl ⟨?_, trivial⟩
                    refine AWI.e rfl (Stp.store 0 Try.sizeOf9 (lk rfl) (lk rfl) rfl rfl rfl rfl rfl rfl rfl ?_)
                    refine AW.done (by decide +kernel) ?_
                    refine Blk.norm ?_
                    refine Blk.norm ?_
                    refine Then.next ?_
                    refine Body.region ?_
                    refine Ops.u (Dtu.mv (lk rfl)) rfl ?_
                    refine Ops.u (Dtu.sub (lk rfl) (lk rfl) (w64 (by omega) (by omega))) rfl ?_
                    refine Ops.u (Dtu.asg (lk rfl)) rfl ?_
                    refine Ops.nil ?_
                    refine Round.goK [0, 0, 0, 0, 0] ⟨k, ⟨x.v, x.title, strOfNums ((ds.drop q).take (ds.length - q)), (getS ds 0).1, x.bells⟩, f, ap, xa, xm, xc, wa, wm, wc, l⟩ rfl rfl rfl ⟨rfl, rfl, trivial⟩ rfl rfl ⟨by dsimp only; omega, hst.trans hs1, gy, gn, gf, gc, q1.1, g1⟩ (by dsimp only; omega)
                · refine AWI.e rfl (Stp.store 0 Try.sizeOf75 (lk rfl) (lk rfl) rfl rfl rfl rfl rfl rfl rfl ?_)
                  refine AW.more [5] (by decide +kernel) rfl ⟨?_, trivial⟩
                  refine AWI.d rfl (Det.ld Try.isAgg32 (lk rfl) (Rd.sl2 (Sl.osl 3 rfl) (gfe (sz := 2) (fun _ => rfl) (by omega) rfl))) rfl ?_
                  refine AW.u 7 rfl (by decide +kernel) (Dtu.slL (q) Try.underlying32 Try.sizeOf5 (Sl.up i1) (lk rfl) (lk rfl) (by omega) (by omega)) rfl ?_
                  refine AW.more [8] (by decide +kernel) rfl ⟨?_, trivial⟩
                  refine AWI.d rfl (Det.bstr Try.underlying32 Try.underlying5 Try.underlying9 (lk rfl) (Sl.subM (Sl.up i1) _ _ (by omega) (by omega))) rfl ?_
                  refine AW.u 11 rfl (by decide +kernel) (Dtu.fld fa80_2 (lk rfl)) rfl ?_
                  refine AW.more [12] (by decide +kernel) rfl ⟨?_, trivial⟩
                  refine AWI.e rfl (Stp.store 0 Try.sizeOf9 (lk rfl) (lk rfl) rfl rfl rfl rfl rfl rfl rfl ?_)
                  refine AW.done (by decide +kernel) ?_
                  refine Blk.norm ?_
                  refine Blk.norm ?_
                  refine Then.next ?_
                  refine Body.region ?_
                  refine Ops.u (Dtu.mv (lk rfl)) rfl ?_
                  refine Ops.u (Dtu.sub (lk rfl) (lk rfl) (w64 (by omega) (by omega))) rfl ?_
                  refine Ops.u (Dtu.asg (lk rfl)) rfl ?_
                  refine Ops.nil ?_
                  refine Round.goK [0, 0, 0, 0, 0] ⟨k, ⟨x.v, x.title, strOfNums ((ds.drop q).take (ds.length - q)), (getS ds 0).1, x.bells⟩, f, ap, xa, xm, xc, wa, wm, wc, l⟩ rfl rfl rfl ⟨rfl, rfl, trivial⟩ rfl rfl ⟨by dsimp only; omega, hst.trans hs1, gy, gn, gf, gc, q1.1, g1⟩ (by dsimp only; omega)
            · refine Body.seq ?_
              refine Body.region ?_
              refine Ops.u (Dtu.eql (lk rfl) (lk rfl)) rfl ?_
              refine Ops.u (Dtu.asg (lk rfl)) rfl ?_
              refine Ops.nil ?_
              refine Then.next ?_
              refine Body.condP (lk rfl) (fun c96 => ?_) (fun c96 => ?_)
              · -- bells
                have e1 : rs[k]!.1 = 4 := by omega
                have q1 := getS_bound ds db 0
                refine Body.seq ?_
                refine Body.region ?_
                refine Ops.u (Dtu.mv (lk rfl)) rfl ?_
                refine Ops.u (Dtu.mv (lk rfl)) rfl ?_
                refine Ops.u (Dtu.ix (i := (k)) Try.underlying149 Try.sizeOf152 (Sl.osl 3 rfl) (lk rfl) (lk rfl) (by omega) (by omega)) rfl ?_
                refine Ops.u (Dtu.fld fa152_1 (lk rfl)) rfl ?_
                refine Ops.d (Det.ld Try.isAgg32 (lk rfl) (Rd.sl2 (Sl.osl 3 rfl) (gfe (sz := 2) (fun _ => rfl) (by omega) rfl))) rfl ?_
                refine Ops.s (Stp.call rfl Try.call66 (lks rfl) (fun E' le hat => rget_ok E' _ _ _ (Sl.mono (by assumption) le) (by assumption)) ?_) rfl
                rintro _ _ ⟨rfl, rfl⟩
                refine Ops.u (Dtu.mv (lk rfl)) rfl ?_
                refine Ops.u (Dtu.ext (lk rfl) rfl) rfl ?_
                refine Ops.u (Dtu.ext (lk rfl) rfl) rfl ?_
                refine Ops.u (Dtu.ext (lk rfl) rfl) rfl ?_
                refine Ops.u (Dtu.asg (lk rfl)) rfl ?_
                refine Ops.u (Dtu.asg (lk rfl)) rfl ?_
                refine Ops.u (Dtu.asg (lk rfl)) rfl ?_
                refine Ops.nil ?_
                refine Then.next ?_
                refine Body.seq ?_
                refine Body.seq ?_
                refine Body.region ?_
                refine Ops.u (Dtu.mv (lk rfl)) rfl ?_
                refine Ops.u (Dtu.neq (lk rfl) (lk rfl)) rfl ?_
                refine Ops.nil ?_
                refine Then.next ?_
                refine Body.condP (lk rfl) (fun c109 => ?_) (fun c109 => ?_)
                · have hs1 : rstep a rs[k]! (x, f) = none := by unfold rstep; rw [if_neg (by omega), if_neg (by omega), if_neg (by omega), if_pos e1, hds, if_pos (by assumption)]
                  have hn := rfold_none rs k (hst.trans hs1)
                  rw [hn]
                  refine Body.seq ?_
                  refine Body.region ?_
                  refine Ops.u (Dtu.build ty80 pl80 (lkp rfl) rfl rfl) rfl ?_
                  refine Ops.e (Stp.store 2 Try.sizeOf80 (lk rfl) (lk rfl) rfl rfl rfl rfl rfl rfl rfl ?_)
                  refine Ops.u (Dtu.asg (lk rfl)) rfl ?_
                  refine Ops.nil ?_
                  refine Then.next ?_
                  refine Body.ret ?_
                  refine Then.ret ?_
                  refine Blk.ret ?_
                  refine Blk.ret ?_
                  refine Then.ret ?_
                  refine Round.ret ?_
                  refine Blk.ret ?_
                  refine Then.ret ?_
                  exact ⟨.inr rfl, _, Loads.agg Try.isAgg80 Try.sizeOf80 (Rds.ow (m := 10) 2 rfl rfl) rfl, _, pk [] rfl, rfl, rfl⟩
                · have hs1 : rstep a rs[k]! (x, f) = some (⟨x.v, x.title, x.clip, x.clips, (getS ds 0).1⟩, f) := by unfold rstep; rw [if_neg (by omega), if_neg (by omega), if_neg (by omega), if_pos e1, hds, if_neg (by assumption)]
                  refine Body.skip ?_
                  refine Then.next ?_
                  refine Body.region ?_
                  refine Ops.u (Dtu.mv (lk rfl)) rfl ?_
                  refine Ops.u (Dtu.fld fa80_4 (lk rfl)) rfl ?_
                  refine Ops.e (Stp.store 0 Try.sizeOf75 (lk rfl) (lk rfl) rfl rfl rfl rfl rfl rfl rfl ?_)
                  refine Ops.nil ?_
                  refine Blk.norm ?_
                  refine Blk.norm ?_
                  refine Then.next ?_
                  refine Body.region ?_
                  refine Ops.u (Dtu.mv (lk rfl)) rfl ?_
                  refine Ops.u (Dtu.sub (lk rfl) (lk rfl) (w64 (by omega) (by omega))) rfl ?_
                  refine Ops.u (Dtu.asg (lk rfl)) rfl ?_
                  refine Ops.nil ?_
                  refine Round.goK [0, 0, 0, 0, 0] ⟨k, ⟨x.v, x.title, x.clip, x.clips, (getS ds 0).1⟩, f, ap, xa, xm, xc, wa, wm, wc, l⟩ rfl rfl rfl ⟨rfl, rfl, trivial⟩ rfl rfl ⟨by dsimp only; omega, hst.trans hs1, gy, gn, gf, gc, g0, q1.1⟩ (by dsimp only; omega)
              · have hs1 : rstep a rs[k]! (x, f) = some (x, f) := by unfold rstep; rw [if_neg (by omega), if_neg (by omega), if_neg (by omega), if_neg (by omega)]
                refine Body.skip ?_
                refine Blk.norm ?_
                refine Blk.norm ?_
                refine Then.next ?_
                refine Body.region ?_
                refine Ops.u (Dtu.mv (lk rfl)) rfl ?_
                refine Ops.u (Dtu.sub (lk rfl) (lk rfl) (w64 (by omega) (by omega))) rfl ?_
                refine Ops.u (Dtu.asg (lk rfl)) rfl ?_
                refine Ops.nil ?_
                refine Round.goK [0, 0, 0, 0, 0] ⟨k, x, f, ap, xa, xm, xc, wa, wm, wc, l⟩ rfl rfl rfl ⟨rfl, rfl, trivial⟩ rfl rfl ⟨by dsimp only; omega, hst.trans hs1, gy, gn, gf, gc, g0, g1⟩ (by dsimp only; omega)
      · obtain rfl : k = 0 := by omega
        rw [List.drop_zero] at gr
        rw [gr]
        dsimp only
        cases f with
        | false =>
          have hf : rfinP a (x, false) bs = none := by unfold rfinP; rw [if_neg (by simp)]
          rw [hf]
          refine Body.exit ?_
          refine Then.exit ?_
          refine Round.exit ?_
          refine Blk.here ?_
          refine Then.next ?_
          refine Body.seq ?_
          refine Body.seq ?_
          refine Body.draw mixed ?_
          refine AB.u 0 rfl (by decide +kernel) (Dtu.mv (lk rfl)) rfl ?_
          refine AB.u 1 rfl (by decide +kernel) (Dtu.not (lk rfl)) rfl ?_
          refine AB.u 2 rfl (by decide +kernel) (Dtu.mv (lk rfl)) rfl ?_
          refine AB.gn 3 rfl (by decide +kernel) rfl rfl rfl rfl rfl ?_
          refine AB.gn 4 rfl (by decide +kernel) rfl rfl rfl rfl rfl ?_
          refine AB.gn 5 rfl (by decide +kernel) rfl rfl rfl rfl rfl ?_
          refine AB.u 6 rfl (by decide +kernel) (Dtu.pickT (lk rfl) (lk rfl)) rfl ?_
          refine AB.u 7 rfl (by decide +kernel) (Dtu.mv (lk rfl)) rfl ?_
          refine AB.gn 8 rfl (by decide +kernel) rfl rfl rfl rfl rfl ?_
          refine AB.gn 9 rfl (by decide +kernel) rfl rfl rfl rfl rfl ?_
          refine AB.gn 10 rfl (by decide +kernel) rfl rfl rfl rfl rfl ?_
          refine AB.gn 11 rfl (by decide +kernel) rfl rfl rfl rfl rfl ?_
          refine AB.gn 12 rfl (by decide +kernel) rfl rfl rfl rfl rfl ?_
          refine AB.gn 13 rfl (by decide +kernel) rfl rfl rfl rfl rfl ?_
          refine AB.gn 14 rfl (by decide +kernel) rfl rfl rfl rfl rfl ?_
          refine AB.u 15 rfl (by decide +kernel) (Dtu.pickT (lk rfl) (lk rfl)) rfl ?_
          refine AB.done (by decide +kernel) ?_
          refine Then.next ?_
          refine Body.condT (lk rfl) ?_
          refine Body.seq ?_
          refine Body.region ?_
          refine Ops.u (Dtu.build ty80 pl80 (lkp rfl) rfl rfl) rfl ?_
          refine Ops.e (Stp.store 2 Try.sizeOf80 (lk rfl) (lk rfl) rfl rfl rfl rfl rfl rfl rfl ?_)
          refine Ops.u (Dtu.asg (lk rfl)) rfl ?_
          refine Ops.nil ?_
          refine Then.next ?_
          refine Body.ret ?_
          refine Then.ret ?_
          exact ⟨.inr rfl, _, Loads.agg Try.isAgg80 Try.sizeOf80 (Rds.ow (m := 10) 2 rfl rfl) rfl, _, pk [] rfl, rfl, rfl⟩
        | true =>
          have hap : ap = true := by cases ap with
            | true => rfl
            | false => exact absurd (gn rfl) (by simp)
          obtain ⟨rfl, rfl, rfl, rfl⟩ := gy hap
          cases hx : x.ok with
          | false =>
            have hf : rfinP a (x, true) bs = none := by unfold rfinP; rw [if_neg (by rw [hx]; simp)]
            rw [hf]
            refine Body.exit ?_
            refine Then.exit ?_
            refine Round.exit ?_
            refine Blk.here ?_
            refine Then.next ?_
            refine Body.seq ?_
            refine Body.seq ?_
            refine Body.draw mixed ?_
            refine AB.u 0 rfl (by decide +kernel) (Dtu.mv (lk rfl)) rfl ?_
            refine AB.u 1 rfl (by decide +kernel) (Dtu.not (lk rfl)) rfl ?_
            refine AB.u 2 rfl (by decide +kernel) (Dtu.mv (lk rfl)) rfl ?_
            refine AB.gd 3 rfl (by decide +kernel) rfl rfl rfl rfl (Det.lda Try.isAgg80 Try.sizeOf80 (lk rfl) (Rds.ow (m := 10) 0 rfl rfl) rfl) rfl ?_
            refine AB.gs 4 rfl (by decide +kernel) (by decide +kernel) rfl rfl rfl (Stp.call rfl Try.call43 (lks rfl) (fun E' le hat => rright22_ok E' x _ (Sl.at (hat _ (.tail _ (.head _)))) gc) ?_) rfl
            rintro _ _ ⟨rfl, rfl⟩
            rw [hx]
            refine AB.gu 5 rfl (by decide +kernel) rfl rfl rfl (Dtu.not (lk rfl)) rfl ?_
            refine AB.u 6 rfl (by decide +kernel) (Dtu.pickF (lk rfl) (lk rfl)) rfl ?_
            refine AB.u 7 rfl (by decide +kernel) (Dtu.mv (lk rfl)) rfl ?_
            refine AB.gn 8 rfl (by decide +kernel) rfl rfl rfl rfl rfl ?_
            refine AB.gn 9 rfl (by decide +kernel) rfl rfl rfl rfl rfl ?_
            refine AB.gn 10 rfl (by decide +kernel) rfl rfl rfl rfl rfl ?_
            refine AB.gn 11 rfl (by decide +kernel) rfl rfl rfl rfl rfl ?_
            refine AB.gn 12 rfl (by decide +kernel) rfl rfl rfl rfl rfl ?_
            refine AB.gn 13 rfl (by decide +kernel) rfl rfl rfl rfl rfl ?_
            refine AB.gn 14 rfl (by decide +kernel) rfl rfl rfl rfl rfl ?_
            refine AB.u 15 rfl (by decide +kernel) (Dtu.pickT (lk rfl) (lk rfl)) rfl ?_
            refine AB.done (by decide +kernel) ?_
            refine Then.next ?_
            refine Body.condT (lk rfl) ?_
            refine Body.seq ?_
            refine Body.region ?_
            refine Ops.u (Dtu.build ty80 pl80 (lkp rfl) rfl rfl) rfl ?_
            refine Ops.e (Stp.store 2 Try.sizeOf80 (lk rfl) (lk rfl) rfl rfl rfl rfl rfl rfl rfl ?_)
            refine Ops.u (Dtu.asg (lk rfl)) rfl ?_
            refine Ops.nil ?_
            refine Then.next ?_
            refine Body.ret ?_
            refine Then.ret ?_
            exact ⟨.inr rfl, _, Loads.agg Try.isAgg80 Try.sizeOf80 (Rds.ow (m := 10) 2 rfl rfl) rfl, _, pk [] rfl, rfl, rfl⟩
          | true =>
            refine Body.exit ?_
            refine Then.exit ?_
            refine Round.exit ?_
            refine Blk.here ?_
            refine Then.next ?_
            refine Body.seq ?_
            refine Body.seq ?_
            refine Body.draw mixed ?_
            refine AB.u 0 rfl (by decide +kernel) (Dtu.mv (lk rfl)) rfl ?_
            refine AB.u 1 rfl (by decide +kernel) (Dtu.not (lk rfl)) rfl ?_
            refine AB.u 2 rfl (by decide +kernel) (Dtu.mv (lk rfl)) rfl ?_
            refine AB.gd 3 rfl (by decide +kernel) rfl rfl rfl rfl (Det.lda Try.isAgg80 Try.sizeOf80 (lk rfl) (Rds.ow (m := 10) 0 rfl rfl) rfl) rfl ?_
            refine AB.gs 4 rfl (by decide +kernel) (by decide +kernel) rfl rfl rfl (Stp.call rfl Try.call43 (lks rfl) (fun E' le hat => rright22_ok E' x _ (Sl.at (hat _ (.tail _ (.head _)))) gc) ?_) rfl
            rintro _ _ ⟨rfl, rfl⟩
            rw [hx]
            refine AB.gu 5 rfl (by decide +kernel) rfl rfl rfl (Dtu.not (lk rfl)) rfl ?_
            refine AB.u 6 rfl (by decide +kernel) (Dtu.pickF (lk rfl) (lk rfl)) rfl ?_
            refine AB.u 7 rfl (by decide +kernel) (Dtu.mv (lk rfl)) rfl ?_
            refine AB.gd 8 rfl (by decide +kernel) rfl rfl rfl rfl (Det.lda Try.isAgg80 Try.sizeOf80 (lk rfl) (Rds.ow (m := 10) 4 rfl rfl) rfl) rfl ?_
            refine AB.gd 9 rfl (by decide +kernel) rfl rfl rfl rfl (Det.lda Try.isAgg80 Try.sizeOf80 (lk rfl) (Rds.ow (m := 10) 0 rfl rfl) rfl) rfl ?_
            refine AB.gu 12 rfl (by decide +kernel) rfl rfl rfl (Dtu.mv (lk rfl)) rfl ?_
            refine AB.gd 13 rfl (by decide +kernel) rfl rfl rfl rfl (Det.bstr Try.underlying32 Try.underlying5 Try.underlying9 (lk rfl) (Sl.up h)) rfl ?_
            refine AB.gs 10 rfl (by decide +kernel) (by decide +kernel) rfl rfl rfl (Stp.call rfl Try.call46 (lks rfl) (fun E' le hat => rdiff22_ok E' a x _ _ (Sl.mono ha le) (Sl.at (hat _ (.tail _ (.head _)))) hk hx fa.fl gf g0 g1) ?_) rfl
            rintro _ _ ⟨s122, rfl, rfl⟩
            have hbd := sdifB_byt (a := a) hk hx gf g0 g1
            have hinj := strOfNums_inj hbd hb
            by_cases he : sdifB a x = bs
            · have hf : rfinP a (x, true) bs = some x := by unfold rfinP; rw [if_pos ⟨rfl, hx, he⟩]
              have hd := hinj.2 he
              rw [hf]
              clear hinj
              refine AB.gd 11 rfl (by decide +kernel) rfl rfl rfl rfl (Det.bstr Try.underlying32 Try.underlying5 Try.underlying9 (lk rfl) (Sl.osl 0 rfl)) rfl ?_
              refine AB.gu 14 rfl (by decide +kernel) rfl rfl rfl (Dtu.neStr (lk rfl) (lk rfl)) rfl ?_
              refine AB.u 15 rfl (by decide +kernel) (Dtu.pickF (lk rfl) (lk rfl)) rfl ?_
              refine AB.done (by decide +kernel) ?_
              refine Then.next ?_
              refine Body.condP (lk rfl) (fun c128 => ?_) (fun c128 => ?_)
              · exact absurd hd c128
              · clear hd
                refine Body.skip ?_
                refine Then.next ?_
                refine Body.seq ?_
                refine Body.region ?_
                refine Ops.d (Det.lda Try.isAgg80 Try.sizeOf80 (lk rfl) (Rds.ow (m := 10) 1 rfl rfl) rfl) rfl ?_
                refine Ops.e (Stp.store 3 Try.sizeOf80 (lk rfl) (lk rfl) rfl rfl rfl rfl rfl rfl rfl ?_)
                refine Ops.u (Dtu.asg (lk rfl)) rfl ?_
                refine Ops.nil ?_
                refine Then.next ?_
                refine Body.ret ?_
                exact ⟨.inr rfl, _, Loads.agg Try.isAgg80 Try.sizeOf80 (Rds.ow (m := 10) 3 rfl rfl) rfl, _, pk [2] rfl, .slice xa xm xc, rfl, rfl⟩
            · have hf : rfinP a (x, true) bs = none := by unfold rfinP; rw [if_neg (fun h => he h.2.2)]
              have hd : ¬ (strOfNums (sdifB a x)).toList = (strOfNums bs).toList := fun h => he (hinj.1 h)
              rw [hf]
              clear hinj
              refine AB.gd 11 rfl (by decide +kernel) rfl rfl rfl rfl (Det.bstr Try.underlying32 Try.underlying5 Try.underlying9 (lk rfl) (Sl.osl 0 rfl)) rfl ?_
              refine AB.gu 14 rfl (by decide +kernel) rfl rfl rfl (Dtu.neStr (lk rfl) (lk rfl)) rfl ?_
              refine AB.u 15 rfl (by decide +kernel) (Dtu.pickF (lk rfl) (lk rfl)) rfl ?_
              refine AB.done (by decide +kernel) ?_
              refine Then.next ?_
              refine Body.condP (lk rfl) (fun _ => ?_) (fun hn => absurd (by first | omega | assumption | decide) hn)
              refine Body.seq ?_
              refine Body.region ?_
              refine Ops.u (Dtu.build ty80 pl80 (lkp rfl) rfl rfl) rfl ?_
              refine Ops.e (Stp.store 3 Try.sizeOf80 (lk rfl) (lk rfl) rfl rfl rfl rfl rfl rfl rfl ?_)
              refine Ops.u (Dtu.asg (lk rfl)) rfl ?_
              refine Ops.nil ?_
              refine Then.next ?_
              refine Body.ret ?_
              refine Then.ret ?_
              exact ⟨.inr rfl, _, Loads.agg Try.isAgg80 Try.sizeOf80 (Rds.ow (m := 10) 3 rfl rfl) rfl, _, pk [] rfl, rfl, rfl⟩
end Go.Proofs.Ytijjjdljdjnbaaa
end
section
/- RegDiffs: what it computes. -/
namespace Go.Proofs.Ytijjjdljdjnbaaa
set_option maxRecDepth 100000
set_option linter.unusedVariables false
set_option linter.unusedSimpArgs false
open Go.Sx

end Go.Proofs.Ytijjjdljdjnbaaa
end
section
/- RegApplies: what it computes. -/
namespace Go.Proofs.Ytijjjdljdjnbaaa
set_option maxRecDepth 100000
set_option linter.unusedVariables false
set_option linter.unusedSimpArgs false
open Go.Sx

/-- what Apply tells: a state, an error; is there one? -/
def asS (a : Stt) (bs : List Int) : Stt := (sapplyV a bs).getD Stt.none
def asE (a : Stt) (bs : List Int) : Int := match sapplyV a bs with
  | some _ => 0
  | none => 3
def asK (a : Stt) (bs : List Int) : Bool := (sapplyV a bs).isSome
theorem sapply_any (E : Env) (a : Stt) (s b : Value) (bs : List Int) (ha : a.v.has E [] s) (h : Sl E [] 1 b bs.length (bs.map (.int .u8))) (hb : Byt bs) (hmax : bs.length ≤ 100000) (fa : a.Fine) : Does Try.prog 47 #[a.val s, b] E [] fun r H' => ∃ (z1 : Option Addr) (z2 z3 : Nat), r = .tuple #[(asS a bs).val (.slice z1 z2 z3), .int .i64 (asE a bs)] ∧ H' = [osl 55 4 (.slice z1 z2 z3) (asS a bs).v.cells.length ((asS a bs).v.cells.flatMap Cell.enc)] := by
  have h1 := sapply_ok E a s b bs ha h hb hmax fa.fl fa.c0 fa.b0
  cases hr : sapplyV a bs with
  | some v =>
    have e1 : asS a bs = v := by simp [asS, hr]
    have e2 : asE a bs = 0 := by simp [asE, hr]
    rw [e1, e2]
    rw [hr] at h1
    intro w s0
    refine (h1 w s0).mono ?_
    rintro e w' ⟨r, H', he, ⟨s', rfl, rfl⟩, s1⟩
    obtain ⟨z1, m, z3, rfl⟩ := Sl.isSl (Sl.osl (H := [osl 55 4 s' v.v.cells.length (v.v.cells.flatMap Cell.enc)]) 0 rfl) w' s1
    exact ⟨_, _, he, ⟨z1, m, z3, rfl, rfl⟩, s1⟩
  | none =>
    have e1 : asS a bs = Stt.none := by simp [asS, hr]
    have e2 : asE a bs = 3 := by simp [asE, hr]
    rw [e1, e2]
    rw [hr] at h1
    intro w s0
    refine (h1 w s0).mono ?_
    rintro e w' ⟨r, H', he, ⟨rfl, rfl⟩, s1⟩
    exact ⟨_, _, he, ⟨none, 0, 0, rfl, rfl⟩, osl_nil s1⟩
theorem srapply_any (E : Env) (a : Stt) (s b : Value) (bs : List Int) (ha : a.v.rhas E [] s) (h : Sl E [] 1 b bs.length (bs.map (.int .u8))) (hb : Byt bs) (hmax : bs.length ≤ 100000) (fa : a.Fine) (ca : ∀ c ∈ a.v.cells, c.Cols) : Does Try.prog 48 #[a.val s, b] E [] fun r H' => ∃ (z1 : Option Addr) (z2 z3 : Nat), r = .tuple #[(asS a bs).val (.slice z1 z2 z3), .bool (asK a bs)] ∧ H' = [osl 65 11 (.slice z1 z2 z3) (asS a bs).v.cells.length ((asS a bs).v.cells.flatMap Cell.renc)] := by
  have h1 := rapply22_ok E a s b bs ha h hb hmax fa ca
  cases hr : sapplyV a bs with
  | some v =>
    have e1 : asS a bs = v := by simp [asS, hr]
    have e2 : asK a bs = true := by simp [asK, hr]
    rw [e1, e2]
    rw [hr] at h1
    intro w s0
    refine (h1 w s0).mono ?_
    rintro e w' ⟨r, H', he, ⟨s', rfl, rfl⟩, s1⟩
    obtain ⟨z1, m, z3, rfl⟩ := Sl.isSl (Sl.osl (H := [osl 65 11 s' v.v.cells.length (v.v.cells.flatMap Cell.renc)]) 0 rfl) w' s1
    exact ⟨_, _, he, ⟨z1, m, z3, rfl, rfl⟩, s1⟩
  | none =>
    have e1 : asS a bs = Stt.none := by simp [asS, hr]
    have e2 : asK a bs = false := by simp [asK, hr]
    rw [e1, e2]
    rw [hr] at h1
    intro w s0
    refine (h1 w s0).mono ?_
    rintro e w' ⟨r, H', he, ⟨rfl, rfl⟩, s1⟩
    exact ⟨_, _, he, ⟨none, 0, 0, rfl, rfl⟩, osl_nil s1⟩
theorem asS_fl {a : Stt} (fa : a.Fine) {bs : List Int} (hb : Byt bs) : ∀ c ∈ (asS a bs).v.cells, c.Fl := by
  unfold asS
  cases hr : sapplyV a bs with
  | none => simp [Stt.none, View.none]
  | some c =>
    dsimp only [Option.getD_some]
    unfold sapplyV at hr
    split at hr
    · cases hr
    · rename_i l hl
      split at hr
      · unfold sapplyL at hr
        split at hr
        · cases hr
        · rename_i p hp
          split at hr
          · cases hr
          · rename_i v hv
            split at hr
            · cases hr
            · split at hr
              · cases hr
              · unfold sfinP at hr
                split at hr
                · injection hr with hr
                  subst hr
                  exact applyV_fl (findP_byt hb hl hp) fa.fl hv
                · cases hr
      · cases hr
theorem asS_len {a : Stt} {bs : List Int} : (asS a bs).v.cells.length ≤ 480 := by
  cases hr : sapplyV a bs with
  | none => simp [asS, hr, Stt.none, View.none]
  | some c =>
    have hc := (sapplyV_some hr).2.1
    have := ok_480 (Stt.ok_fits hc).1
    simp only [asS, hr, Option.getD_some]; omega
set_option maxHeartbeats 3200000 in
theorem sapplies_ok (E : Env) (v : Stt) (s b : Value) (bs : List Int) (hv : v.v.has E [] s) (hb : Sl E [] 1 b bs.length (bs.map (.int .u8))) (hbt : Byt bs) (fv : v.Fine) (gv : ∀ c ∈ v.v.cells, c.Cols) :
    Does Try.prog 12 #[v.val s, b] E [] fun r H' => r = .bool true ∧ H' = [] := by
  have fvl := fv.fl
  have hAl := asS_len (a := v) (bs := bs)
  have hAf := asS_fl fv hbt
  have k2 : decide (asE v bs = 0) = asK v bs := by cases hr : sapplyV v bs <;> simp [asE, asK, hr]
  have k4 : asK v bs = false → asE v bs = 3 := fun h => by cases hr : sapplyV v bs <;> simp [asK, asE, hr] at h ⊢
  have hA := fun (E' : Env) (le : Env.Le E E') (h : bs.length ≤ 100000) => sapply_any E' v s b bs (Sl.mono hv le) (Sl.mono hb le) hbt h fv
  have hB := fun (E' : Env) (s' : Value) (h1 : v.v.rhas E' [] s') (le : Env.Le E E') (h : bs.length ≤ 100000) => srapply_any E' v s' b bs h1 (Sl.mono hb le) hbt h fv gv
  have hS := fun (E' : Env) (s' t' : Value) (h1 : (asS v bs).v.rhas E' [] s') (h2 : (asS v bs).v.rhas E' [] t') => rsame22_ok E' (asS v bs) (asS v bs) s' t' h1 h2 hAf hAf
  rw [show decide ((asS v bs).eqv (asS v bs)) = true from decide_eq_true (Stt.eqv_iff.2 rfl)] at hS
  generalize asS v bs = X at *
  generalize asE v bs = e at *
  generalize asK v bs = q at *
  obtain ⟨⟨vr, vc, vcs, vo, vl, vv⟩, vt, vp, vn, vb⟩ := v
  unfold View.has at hv
  dsimp only at hv gv fvl hAl hAf
  refine Does.pure hv.isSl fun hsl => ?_
  obtain ⟨sa, sm, sc, rfl⟩ := hsl
  refine Does.go (args := [.agg (List.toArray [.int .i64 vr, .int .i64 vc, .slice sa sm sc, .int .i64 vo, .int .i64 vl, .bool vv, .string vt, .string vp, .int .u64 vn, .int .u64 vb]), b]) _ _ Try.func12 rfl Try.ntmps12 rfl rfl ?_
  refine Body.seq ?_
  refine Body.region ?_
  refine Ops.s (Stp.box (lk rfl) rfl (fun b2 => ?_)) rfl
  refine Ops.u (Dtu.asg (lk rfl)) rfl ?_
  refine Ops.nil ?_
  refine Then.next ?_
  refine Body.seq ?_
  refine Body.seq ?_
  refine Body.region ?_
  refine Ops.d (Det.lda Try.isAgg77 Try.sizeOf77 (lk rfl) (Rds.ow (m := 10) 0 rfl rfl) rfl) rfl ?_
  refine Ops.s (Stp.call rfl Try.call38 (lks rfl) (fun E' le hat => great_ok E' ⟨⟨_, _, _, _, _, _⟩, _, _, _, _⟩ _ (Sl.mono (by assumption) le)) ?_) rfl
  rintro _ _ ⟨rfl, rfl⟩
  refine Ops.u (Dtu.mv (lk rfl)) rfl ?_
  refine Ops.decP 11 rfl (fun c11 => ?_) (fun c11 => ?_)
  · refine Ops.gn rfl rfl rfl rfl rfl ?_
    refine Ops.gn rfl rfl rfl rfl rfl ?_
    refine Ops.gn rfl rfl rfl rfl rfl ?_
    refine Ops.u (Dtu.pickT (lk rfl) (lk rfl)) rfl ?_
    refine Ops.nil ?_
    refine Then.next ?_
    refine Body.condT (lk rfl) ?_
    refine Body.seq ?_
    refine Body.region ?_
    refine Ops.s (Stp.call rfl Try.call39 (lks rfl) (fun E' le hat => alive22_ok E') ?_) rfl
    rintro _ _ ⟨rfl, rfl⟩
    refine Ops.u (Dtu.asg (lk rfl)) rfl ?_
    refine Ops.nil ?_
    refine Then.next ?_
    refine Body.ret ?_
    refine Then.ret ?_
    exact ⟨.inr rfl, _, pk [] rfl, rfl, rfl⟩
  · refine Ops.gu rfl rfl rfl (Dtu.mv (lk rfl)) rfl ?_
    refine Ops.gu rfl rfl rfl (Dtu.lenS Try.underlying32 (Sl.up hb) (lk rfl)) rfl ?_
    refine Ops.gu rfl rfl rfl (Dtu.gtr (lk rfl) (lk rfl)) rfl ?_
    refine Ops.u (Dtu.pickF (lk rfl) (lk rfl)) rfl ?_
    refine Ops.nil ?_
    refine Then.next ?_
    refine Body.condP (lk rfl) (fun c15 => ?_) (fun c15 => ?_)
    · refine Body.seq ?_
      refine Body.region ?_
      refine Ops.s (Stp.call rfl Try.call39 (lks rfl) (fun E' le hat => alive22_ok E') ?_) rfl
      rintro _ _ ⟨rfl, rfl⟩
      refine Ops.u (Dtu.asg (lk rfl)) rfl ?_
      refine Ops.nil ?_
      refine Then.next ?_
      refine Body.ret ?_
      refine Then.ret ?_
      exact ⟨.inr rfl, _, pk [] rfl, rfl, rfl⟩
    · have n1 : vcs.length ≤ 1000 := by unfold Stt.great at *; dsimp only at *; omega
      refine Body.skip ?_
      refine Then.next ?_
      refine Body.seq ?_
      refine Body.region ?_
      refine Ops.d (Det.lda Try.isAgg77 Try.sizeOf77 (lk rfl) (Rds.ow (m := 10) 0 rfl rfl) rfl) rfl ?_
      refine Ops.u (Dtu.mv (lk rfl)) rfl ?_
      refine Ops.s (Stp.call rfl Try.call47 (lks rfl) (fun E' le hat => hA E' le (by omega)) ?_) rfl
      rintro _ _ ⟨u1, u2, u3, rfl, rfl⟩
      refine Ops.u (Dtu.mv (lk rfl)) rfl ?_
      refine Ops.u (Dtu.ext (lk rfl) rfl) rfl ?_
      refine Ops.u (Dtu.ext (lk rfl) rfl) rfl ?_
      refine Ops.s (Stp.alloc ty77 (fun b5 => ?_)) rfl
      refine Ops.e (Stp.store 0 Try.sizeOf77 (lk rfl) (lk rfl) rfl rfl rfl rfl rfl rfl rfl ?_)
      refine Ops.u (Dtu.asg (lk rfl)) rfl ?_
      refine Ops.nil ?_
      refine Then.next ?_
      refine Body.seq ?_
      refine Body.region ?_
      refine Ops.d (Det.lda Try.isAgg77 Try.sizeOf77 (lk rfl) (Rds.ow (m := 10) 2 rfl rfl) rfl) rfl ?_
      refine Ops.s (Stp.call rfl Try.call40 (lks rfl) (fun E' le hat => as22_ok E' ⟨⟨_, _, _, _, _, _⟩, _, _, _, _⟩ _ (Sl.mono (by assumption) le) (by assumption) (by first | assumption | (dsimp only; omega))) ?_) rfl
      rintro _ _ ⟨xa25, xm25, xc25, rfl, rfl⟩
      refine Ops.u (Dtu.mv (lk rfl)) rfl ?_
      refine Ops.s (Stp.call rfl Try.call48 (lks rfl) (fun E' le hat => hB E' _ (Sl.at (hat _ (.head _))) le (by omega)) ?_) rfl
      rintro _ _ ⟨w1, w2, w3, rfl, rfl⟩
      refine Ops.u (Dtu.mv (lk rfl)) rfl ?_
      refine Ops.u (Dtu.ext (lk rfl) rfl) rfl ?_
      refine Ops.u (Dtu.ext (lk rfl) rfl) rfl ?_
      refine Ops.s (Stp.alloc ty80 (fun b7 => ?_)) rfl
      refine Ops.e (Stp.store 0 Try.sizeOf80 (lk rfl) (lk rfl) rfl rfl rfl rfl rfl rfl rfl ?_)
      refine Ops.u (Dtu.asg (lk rfl)) rfl ?_
      refine Ops.nil ?_
      refine Then.next ?_
      refine Body.seq ?_
      refine Body.draw mixed ?_
      refine AB.s 0 rfl (by decide +kernel) (by decide +kernel) (Stp.call rfl Try.call39 (lks rfl) (fun E' le hat => alive22_ok E') ?_) rfl
      rintro _ _ ⟨rfl, rfl⟩
      refine AB.u 1 rfl (by decide +kernel) (Dtu.mv (lk rfl)) rfl ?_
      refine AB.gd 2 rfl (by decide +kernel) rfl rfl rfl rfl (Det.lda Try.isAgg77 Try.sizeOf77 (lk rfl) (Rds.ow (m := 10) 3 rfl rfl) rfl) rfl ?_
      refine AB.gd 4 rfl (by decide +kernel) rfl rfl rfl rfl (Det.lda Try.isAgg80 Try.sizeOf80 (lk rfl) (Rds.ow (m := 10) 0 rfl rfl) rfl) rfl ?_
      refine AB.gs 3 rfl (by decide +kernel) (by decide +kernel) rfl rfl rfl (Stp.call rfl Try.call40 (lks rfl) (fun E' le hat => as22_ok E' X (.slice u1 u2 u3) (Sl.at (t := 55) (hat _ (by simp))) hAf (by omega)) ?_) rfl
      rintro _ _ ⟨ga, gm, gc, rfl, rfl⟩
      skip
      refine AB.gs 5 rfl (by decide +kernel) (by decide +kernel) rfl rfl rfl (Stp.call rfl Try.call45 (lks rfl) (fun E' le hat => hS E' (.slice ga gm gc) (.slice w1 w2 w3) (Sl.at (t := 65) (hat _ (by simp))) (Sl.at (t := 65) (hat _ (by simp)))) ?_) rfl
      rintro _ _ ⟨rfl, rfl⟩
      cases q with
      | true =>
        have k3 : e = 0 := by simpa using k2
        refine AB.u 6 rfl (by decide +kernel) (Dtu.pickT (lk rfl) (lk rfl)) rfl ?_
        refine AB.u 7 rfl (by decide +kernel) (Dtu.mv (lk rfl)) rfl ?_
        refine AB.gu 8 rfl (by decide +kernel) rfl rfl rfl (Dtu.mv (lk rfl)) rfl ?_
        refine AB.gu 9 rfl (by decide +kernel) rfl rfl rfl (Dtu.eql (lk rfl) (lk rfl)) rfl ?_
        refine AB.gu 10 rfl (by decide +kernel) rfl rfl rfl (Dtu.mv (lk rfl)) rfl ?_
        refine AB.gu 11 rfl (by decide +kernel) rfl rfl rfl (Dtu.eqB Try.underlying4 (lk rfl) (lk rfl)) rfl ?_
        refine AB.u 12 rfl (by decide +kernel) (Dtu.pickT (lk rfl) (lk rfl)) rfl ?_
        refine AB.u 13 rfl (by decide +kernel) (Dtu.mv (lk rfl)) rfl ?_
        refine AB.decP 43 rfl (fun _ => ?_) (fun hn => absurd (by first | omega | assumption | decide) hn)
        refine AB.gu 14 rfl (by decide +kernel) rfl rfl rfl (Dtu.mv (lk rfl)) rfl ?_
        refine AB.gu 15 rfl (by decide +kernel) rfl rfl rfl (Dtu.mv (lk rfl)) rfl ?_
        refine AB.gn 16 rfl (by decide +kernel) rfl rfl rfl rfl rfl ?_
        refine AB.gn 17 rfl (by decide +kernel) rfl rfl rfl rfl rfl ?_
        refine AB.gu 18 rfl (by decide +kernel) rfl rfl rfl (Dtu.pickT (lk rfl) (lk rfl)) rfl ?_
        refine AB.u 19 rfl (by decide +kernel) (Dtu.pickT (lk rfl) (lk rfl)) rfl ?_
        refine AB.u 20 rfl (by decide +kernel) (Dtu.asg (lk rfl)) rfl ?_
        refine AB.done (by decide +kernel) ?_
        refine Then.next ?_
        refine Body.ret ?_
        exact ⟨.inr rfl, _, pk [] rfl, by first | rfl | exact bool_eq (by simp [*]), rfl⟩
      | false =>
        have k3 := k4 rfl
        refine AB.u 6 rfl (by decide +kernel) (Dtu.pickT (lk rfl) (lk rfl)) rfl ?_
        refine AB.u 7 rfl (by decide +kernel) (Dtu.mv (lk rfl)) rfl ?_
        refine AB.gu 8 rfl (by decide +kernel) rfl rfl rfl (Dtu.mv (lk rfl)) rfl ?_
        refine AB.gu 9 rfl (by decide +kernel) rfl rfl rfl (Dtu.eql (lk rfl) (lk rfl)) rfl ?_
        refine AB.gu 10 rfl (by decide +kernel) rfl rfl rfl (Dtu.mv (lk rfl)) rfl ?_
        refine AB.gu 11 rfl (by decide +kernel) rfl rfl rfl (Dtu.eqB Try.underlying4 (lk rfl) (lk rfl)) rfl ?_
        refine AB.u 12 rfl (by decide +kernel) (Dtu.pickT (lk rfl) (lk rfl)) rfl ?_
        refine AB.u 13 rfl (by decide +kernel) (Dtu.mv (lk rfl)) rfl ?_
        refine AB.decP 43 rfl (fun _ => ?_) (fun hn => absurd (by first | omega | assumption | decide) hn)
        refine AB.gu 14 rfl (by decide +kernel) rfl rfl rfl (Dtu.mv (lk rfl)) rfl ?_
        refine AB.gu 15 rfl (by decide +kernel) rfl rfl rfl (Dtu.mv (lk rfl)) rfl ?_
        refine AB.gu 16 rfl (by decide +kernel) rfl rfl rfl (Dtu.mv (lk rfl)) rfl ?_
        refine AB.gu 17 rfl (by decide +kernel) rfl rfl rfl (Dtu.eql (lk rfl) (lk rfl)) rfl ?_
        refine AB.gu 18 rfl (by decide +kernel) rfl rfl rfl (Dtu.pickF (lk rfl) (lk rfl)) rfl ?_
        refine AB.u 19 rfl (by decide +kernel) (Dtu.pickT (lk rfl) (lk rfl)) rfl ?_
        refine AB.u 20 rfl (by decide +kernel) (Dtu.asg (lk rfl)) rfl ?_
        refine AB.done (by decide +kernel) ?_
        refine Then.next ?_
        refine Body.ret ?_
        exact ⟨.inr rfl, _, pk [] rfl, by first | rfl | exact bool_eq (by simp [*]), rfl⟩
end Go.Proofs.Ytijjjdljdjnbaaa
end
section
/- States and bytes as arguments, for RegDiffs and RegApplies. -/
end
