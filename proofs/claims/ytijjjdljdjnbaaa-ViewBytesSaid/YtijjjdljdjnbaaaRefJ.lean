/- The document's views: their bytes. -/
import Derived.Test.YtijjjdljdjnbaaaRefI
namespace Go.Proofs.Ytijjjdljdjnbaaa
set_option maxRecDepth 100000
set_option linter.unusedVariables false
set_option linter.unusedSimpArgs false
open Go.Sx

theorem rhead_ok (E : Env) (v : View) (a : Option Addr) (m k : Nat) (hf : v.fits) : Does Try.prog 61 #[v.val (.slice a m k)] E [] fun r H' => ∃ s, s = r ∧ H' = [osl 5 1 s 5 (v.head.map (.int .u8))] := by
  obtain ⟨hrc, f1, f2, f3, f4, f5⟩ := hf
  refine Does.go (args := [v.val (.slice a m k)]) _ _ Try.func61 rfl Try.ntmps61 rfl rfl ?_
  refine Body.seq ?_
  refine Body.region ?_
  refine Ops.s (Stp.box (lk rfl) rfl (fun b1 => ?_)) rfl
  refine Ops.u (Dtu.asg (lk rfl)) rfl ?_
  refine Ops.nil ?_
  refine Then.next ?_
  refine Body.seq ?_
  refine Body.region ?_
  refine Ops.u (Dtu.asg (lk rfl)) rfl ?_
  refine Ops.nil ?_
  refine Then.next ?_
  refine Body.seq ?_
  refine Body.seq ?_
  refine Body.region ?_
  refine Ops.u (Dtu.fld fa30_3 (lk rfl)) rfl ?_
  refine Ops.d (Det.ld Try.isAgg4 (lk rfl) (Rd.ow 0 rfl rfl)) rfl ?_
  refine Ops.nil ?_
  refine Then.next ?_
  refine Body.cond (lk rfl) (fun c5 => ?_) (fun c5 => ?_)
  · refine Body.region ?_
    refine Ops.u (Dtu.asg (lk rfl)) rfl ?_
    refine Ops.nil ?_
    refine Then.next ?_
    refine Body.seq ?_
    refine Body.region ?_
    refine Ops.u (Dtu.fld fa30_0 (lk rfl)) rfl ?_
    refine Ops.u (Dtu.fld fa28_0 (lk rfl)) rfl ?_
    refine Ops.d (Det.ld Try.isAgg3 (lk rfl) (Rd.ow 0 rfl rfl)) rfl ?_
    refine Ops.u (Dtu.cvt Try.underlying3 Try.underlying5 (lk rfl) (wu8 (by omega) (by omega))) rfl ?_
    refine Ops.u (Dtu.fld fa30_0 (lk rfl)) rfl ?_
    refine Ops.u (Dtu.fld fa28_1 (lk rfl)) rfl ?_
    refine Ops.d (Det.ld Try.isAgg3 (lk rfl) (Rd.ow 0 rfl rfl)) rfl ?_
    refine Ops.u (Dtu.cvt Try.underlying3 Try.underlying5 (lk rfl) (wu8 (by omega) (by omega))) rfl ?_
    refine Ops.u (Dtu.fld fa30_1 (lk rfl)) rfl ?_
    refine Ops.d (Det.ld Try.isAgg3 (lk rfl) (Rd.ow 0 rfl rfl)) rfl ?_
    refine Ops.u (Dtu.cvt Try.underlying3 Try.underlying5 (lk rfl) (wu8 (by omega) (by omega))) rfl ?_
    refine Ops.u (Dtu.fld fa30_2 (lk rfl)) rfl ?_
    refine Ops.d (Det.ld Try.isAgg3 (lk rfl) (Rd.ow 0 rfl rfl)) rfl ?_
    refine Ops.u (Dtu.cvt Try.underlying3 Try.underlying5 (lk rfl) (wu8 (by omega) (by omega))) rfl ?_
    refine Ops.u (Dtu.mv (lk rfl)) rfl ?_
    refine Ops.s (Stp.buildSliceO Try.underlying32 ty5 (by decide) (by decide) (lkp rfl) rfl rfl rfl (by decide) (fun v21 => ?_)) rfl
    refine Ops.u (Dtu.asg (lk rfl)) rfl ?_
    refine Ops.nil ?_
    refine Then.next ?_
    refine Body.ret ?_
    exact ⟨.inr rfl, _, pk [0] rfl, v21, rfl, by simp [View.head, c5]⟩
  · refine Body.skip ?_
    refine Then.next ?_
    refine Body.seq ?_
    refine Body.region ?_
    refine Ops.u (Dtu.fld fa30_0 (lk rfl)) rfl ?_
    refine Ops.u (Dtu.fld fa28_0 (lk rfl)) rfl ?_
    refine Ops.d (Det.ld Try.isAgg3 (lk rfl) (Rd.ow 0 rfl rfl)) rfl ?_
    refine Ops.u (Dtu.cvt Try.underlying3 Try.underlying5 (lk rfl) (wu8 (by omega) (by omega))) rfl ?_
    refine Ops.u (Dtu.fld fa30_0 (lk rfl)) rfl ?_
    refine Ops.u (Dtu.fld fa28_1 (lk rfl)) rfl ?_
    refine Ops.d (Det.ld Try.isAgg3 (lk rfl) (Rd.ow 0 rfl rfl)) rfl ?_
    refine Ops.u (Dtu.cvt Try.underlying3 Try.underlying5 (lk rfl) (wu8 (by omega) (by omega))) rfl ?_
    refine Ops.u (Dtu.fld fa30_1 (lk rfl)) rfl ?_
    refine Ops.d (Det.ld Try.isAgg3 (lk rfl) (Rd.ow 0 rfl rfl)) rfl ?_
    refine Ops.u (Dtu.cvt Try.underlying3 Try.underlying5 (lk rfl) (wu8 (by omega) (by omega))) rfl ?_
    refine Ops.u (Dtu.fld fa30_2 (lk rfl)) rfl ?_
    refine Ops.d (Det.ld Try.isAgg3 (lk rfl) (Rd.ow 0 rfl rfl)) rfl ?_
    refine Ops.u (Dtu.cvt Try.underlying3 Try.underlying5 (lk rfl) (wu8 (by omega) (by omega))) rfl ?_
    refine Ops.u (Dtu.mv (lk rfl)) rfl ?_
    refine Ops.s (Stp.buildSliceO Try.underlying32 ty5 (by decide) (by decide) (lkp rfl) rfl rfl rfl (by decide) (fun v21 => ?_)) rfl
    refine Ops.u (Dtu.asg (lk rfl)) rfl ?_
    refine Ops.nil ?_
    refine Then.next ?_
    refine Body.ret ?_
    exact ⟨.inr rfl, _, pk [0] rfl, v21, rfl, by simp [View.head, c5]⟩
/-- the bytes of n cells more of the first one, and of all -/
def runsN (n : Nat) : List Cell → List Int
  | [] => []
  | c :: t => runsFrom c (n + 1) t
theorem runsN_0 (xs : List Cell) : runsN 0 xs = runsB xs := by cases xs <;> rfl
theorem runsN_same {xs : List Cell} {n : Nat} (h : 1 < xs.length) (e : xs[1]! = xs[0]!) : runsN n xs = runsN (n + 1) (xs.drop 1) := by
  match xs, h with
  | c :: d :: t, _ =>
    obtain rfl : d = c := by simpa using e
    simp [runsN, runsFrom]
theorem runsN_other {xs : List Cell} {n : Nat} (h0 : 0 < xs.length) (e : ¬ (1 < xs.length ∧ xs[1]! = xs[0]!)) : runsN n xs = putL ((n + 1 : Nat) : Int) ++ xs[0]!.bytes ++ runsN 0 (xs.drop 1) := by
  match xs, h0 with
  | [c], _ => simp [runsN, runsFrom]
  | c :: d :: t, _ =>
    have : ¬ d = c := fun h => e ⟨by simp, by simpa using h⟩
    simp [runsN, runsFrom, this]
theorem rwrite_ok (E : Env) (v : View) (s : Value) (h : v.rhas E [] s) (hfl : ∀ c ∈ v.cells, c.Fl) (hk : v.ok = true) : Does Try.prog 31 #[v.val s] E [] fun r H' => ∃ s, r = s ∧ H' = [osl 5 1 s v.bytes.length (v.bytes.map (.int .u8))] := by
  unfold View.rhas at h
  obtain ⟨hfit, hall⟩ := View.ok_fits hk
  have hmb := mul_bound hfit.1
  have hlen : v.cells.length ≤ 480 := by have := hfit.2.2.2.2.2; omega
  refine Does.pure h.isSl fun hs => ?_
  obtain ⟨a, m, k, rfl⟩ := hs
  have hb0 : v.head.length = 5 := rfl
  have hb1 : v.bytes = v.head ++ runsB v.cells := rfl
  generalize hB : v.bytes = B at *
  obtain ⟨r1, c1, l1, o1, q1, v1⟩ := v
  generalize hV : View.mk r1 c1 l1 o1 q1 v1 = V at *
  refine Does.go (args := [V.val (.slice a m k)]) _ _ Try.func31 rfl Try.ntmps31 rfl rfl ?_
  subst hV
  dsimp only at h hfl hall hlen hb1
  refine Body.seq ?_
  refine Body.region ?_
  refine Ops.s (Stp.box (lk rfl) rfl (fun b1 => ?_)) rfl
  refine Ops.u (Dtu.asg (lk rfl)) rfl ?_
  refine Ops.nil ?_
  refine Then.next ?_
  refine Body.seq ?_
  refine Body.region ?_
  refine Ops.d (Det.lda Try.isAgg30 Try.sizeOf30 (lk rfl) (Rds.ow (m := 6) 0 rfl rfl) rfl) rfl ?_
  refine Ops.s (Stp.call rfl Try.call61 (lks rfl) (fun E' le hat => rhead_ok E' ⟨_, _, _, _, _, _⟩ _ _ _ (by assumption)) ?_) rfl
  rintro _ _ ⟨s7, rfl, rfl⟩
  refine Ops.u (Dtu.asg (lk rfl)) rfl ?_
  refine Ops.nil ?_
  refine Then.next ?_
  refine Body.seq ?_
  refine Body.region ?_
  refine Ops.u (Dtu.asg (lk rfl)) rfl ?_
  refine Ops.nil ?_
  refine Then.next ?_
  refine Body.seq ?_
  refine Body.seq ?_
  refine Body.region ?_
  refine Ops.u (Dtu.asg (lk rfl)) rfl ?_
  refine Ops.nil ?_
  refine Then.next ?_
  refine Body.block ?_
  refine Body.loopF (γ := Nat × Nat × Value × List Int) rfl (fun g => [(5, .int .i64 g.1), (4, .int .i64 g.2.1), (3, g.2.2.1)]) (fun g => [osl 5 1 g.2.2.1 g.2.2.2.length (g.2.2.2.map (.int .u8)), own b1 [.int .i64 r1, .int .i64 c1, .slice a m k, .int .i64 o1, .int .i64 q1, .bool v1] 30])
    (fun g => g.1 ≤ l1.length ∧ g.2.1 ≤ g.1 ∧ g.2.2.2 ++ runsN g.2.1 (l1.drop g.1) = B ∧ g.2.2.2.length ≤ 5 + 40 * g.1) (fun g => l1.length - g.1) (0, 0, s7, View.head ⟨r1, c1, l1, o1, q1, v1⟩) ⟨by simp, by simp, by simp [runsN_0, hb1], by simp [hb0]⟩ ⟨rfl, rfl, rfl, trivial⟩ rfl ?_
  rintro ⟨i, n, O, bs⟩ u ⟨hi, hn, hbs, hl⟩
  dsimp only at hi hn hbs hl ⊢
  refine Body.seq ?_
  refine Body.seq ?_
  refine Body.region ?_
  refine Ops.u (Dtu.mv (lk rfl)) rfl ?_
  refine Ops.u (Dtu.fld fa30_0 (lk rfl)) rfl ?_
  refine Ops.u (Dtu.fld fa28_2 (lk rfl)) rfl ?_
  refine Ops.d (Det.ld Try.isAgg26 (lk rfl) (Rd.ow 1 rfl rfl)) rfl ?_
  refine Ops.u (Dtu.lenS Try.underlying26 (Sl.up h) (lk rfl)) rfl ?_
  refine Ops.u (Dtu.lss (lk rfl) (lk rfl)) rfl ?_
  refine Ops.nil ?_
  refine Then.next ?_
  refine Body.condP (lk rfl) (fun c13 => ?_) (fun c13 => ?_)
  · have hc1 : l1[i]!.ok = true := by rw [getElem!_pos l1 i (by omega)]; exact hall _ (List.getElem_mem _)
    have hc2 : l1[i]!.Fl := by rw [getElem!_pos l1 i (by omega)]; exact hfl _ (List.getElem_mem _)
    have e0 : (l1.drop i)[0]! = l1[i]! := by rw [getElem!_pos (l1.drop i) 0 (by simp; omega), getElem!_pos l1 i (by omega)]; simp
    have e1 : i + 1 < l1.length → (l1.drop i)[1]! = l1[i + 1]! := fun h => by rw [getElem!_pos (l1.drop i) 1 (by simp; omega), getElem!_pos l1 (i + 1) (by omega)]; simp
    obtain ⟨hc3, hc4⟩ := hc2
    refine Body.skip ?_
    refine Then.next ?_
    refine Body.seq ?_
    refine Body.block ?_
    refine Body.seq ?_
    refine Body.region ?_
    refine Ops.u (Dtu.mv (lk rfl)) rfl ?_
    refine Ops.u (Dtu.add (lk rfl) (lk rfl) (w64 (by omega) (by omega))) rfl ?_
    refine Ops.u (Dtu.asg (lk rfl)) rfl ?_
    refine Ops.nil ?_
    refine Then.next ?_
    refine Body.seq ?_
    refine Body.seq ?_
    refine Body.draw mixed ?_
    refine AB.u 0 rfl (by decide +kernel) (Dtu.mv (lk rfl)) rfl ?_
    refine AB.u 1 rfl (by decide +kernel) (Dtu.add (lk rfl) (lk rfl) (w64 (by omega) (by omega))) rfl ?_
    refine AB.u 2 rfl (by decide +kernel) (Dtu.fld fa30_0 (lk rfl)) rfl ?_
    refine AB.u 3 rfl (by decide +kernel) (Dtu.fld fa28_2 (lk rfl)) rfl ?_
    refine AB.d 4 rfl (by decide +kernel) rfl (Det.ld Try.isAgg26 (lk rfl) (Rd.ow 1 rfl rfl)) rfl ?_
    refine AB.u 5 rfl (by decide +kernel) (Dtu.lenS Try.underlying26 (Sl.up h) (lk rfl)) rfl ?_
    refine AB.u 6 rfl (by decide +kernel) (Dtu.lss (lk rfl) (lk rfl)) rfl ?_
    refine AB.u 7 rfl (by decide +kernel) (Dtu.mv (lk rfl)) rfl ?_
    refine AB.decP 25 rfl (fun c25 => ?_) (fun c25 => ?_)
    · have hc5 : l1[i + 1]!.Fl := by rw [getElem!_pos l1 (i + 1) (by omega)]; exact hfl _ (List.getElem_mem _)
      have hq := reqB_iff hc5 ⟨hc3, hc4⟩
      refine AB.gu 8 rfl (by decide +kernel) rfl rfl rfl (Dtu.fld fa30_0 (lk rfl)) rfl ?_
      refine AB.gu 9 rfl (by decide +kernel) rfl rfl rfl (Dtu.fld fa28_2 (lk rfl)) rfl ?_
      refine AB.gd 10 rfl (by decide +kernel) rfl rfl rfl rfl (Det.ld Try.isAgg26 (lk rfl) (Rd.ow 1 rfl rfl)) rfl ?_
      refine AB.gu 11 rfl (by decide +kernel) rfl rfl rfl (Dtu.mv (lk rfl)) rfl ?_
      refine AB.gu 12 rfl (by decide +kernel) rfl rfl rfl (Dtu.add (lk rfl) (lk rfl) (w64 (by omega) (by omega))) rfl ?_
      refine AB.gu 13 rfl (by decide +kernel) rfl rfl rfl (Dtu.ix (i := (i + 1)) Try.underlying26 Try.sizeOf65 (Sl.up h) (lk rfl) (lk rfl) (by omega) (by omega)) rfl ?_
      refine AB.gd 14 rfl (by decide +kernel) rfl rfl rfl rfl (Det.lda Try.isAgg65 Try.sizeOf65 (lk rfl) (Rds.sl (Sl.up h) (gf (sz := 11) (fun _ => rfl) (by omega))) rfl) rfl ?_
      refine AB.gu 15 rfl (by decide +kernel) rfl rfl rfl (Dtu.fld fa30_0 (lk rfl)) rfl ?_
      refine AB.gu 16 rfl (by decide +kernel) rfl rfl rfl (Dtu.fld fa28_2 (lk rfl)) rfl ?_
      refine AB.gd 17 rfl (by decide +kernel) rfl rfl rfl rfl (Det.ld Try.isAgg26 (lk rfl) (Rd.ow 1 rfl rfl)) rfl ?_
      refine AB.gu 18 rfl (by decide +kernel) rfl rfl rfl (Dtu.mv (lk rfl)) rfl ?_
      refine AB.gu 19 rfl (by decide +kernel) rfl rfl rfl (Dtu.ix (i := (i)) Try.underlying26 Try.sizeOf65 (Sl.up h) (lk rfl) (lk rfl) (by omega) (by omega)) rfl ?_
      refine AB.gd 20 rfl (by decide +kernel) rfl rfl rfl rfl (Det.lda Try.isAgg65 Try.sizeOf65 (lk rfl) (Rds.sl (Sl.up h) (gf (sz := 11) (fun _ => rfl) (by omega))) rfl) rfl ?_
      refine AB.gu 21 rfl (by decide +kernel) rfl rfl rfl (Dtu.eqS eqGuard65 (eq65 _ _) (lk rfl) (lk rfl)) rfl ?_
      refine AB.u 22 rfl (by decide +kernel) (Dtu.pickT (lk rfl) (lk rfl)) rfl ?_
      refine AB.done (by decide +kernel) ?_
      refine Then.next ?_
      refine Body.cond (lk rfl) (fun c40 => ?_) (fun c40 => ?_)
      · refine Body.exit ?_
        refine Then.exit ?_
        refine Blk.here ?_
        refine Then.next ?_
        refine Body.region ?_
        refine Ops.u (Dtu.mv (lk rfl)) rfl ?_
        refine Ops.u (Dtu.add (lk rfl) (lk rfl) (w64 (by omega) (by omega))) rfl ?_
        refine Ops.u (Dtu.asg (lk rfl)) rfl ?_
        refine Ops.nil ?_
        refine Round.goK [0, 0] (i + 1, n + 1, O, bs) rfl rfl rfl ⟨int_eq (by simp), int_eq (by simp), rfl, trivial⟩ rfl rfl ⟨by dsimp only; omega, by dsimp only; omega, ?_, by dsimp only; omega⟩ (by dsimp only; omega)
        dsimp only
        rw [← hbs, runsN_same (xs := l1.drop i) (n := n) (by simp; omega) (by rw [e0, e1 (by omega)]; exact hq.1 (by simpa using c40)), List.drop_drop]
      · have hne : ¬ (1 < (l1.drop i).length ∧ (l1.drop i)[1]! = (l1.drop i)[0]!) := fun ⟨_, e⟩ => by
          rw [e0, e1 (by omega)] at e
          rw [hq.2 e] at c40; simp at c40
        have hz := sizeS_le ((n : Int) + 1)
        have hz1 : bs.length ≤ 20000 := by omega
        have hz3 := Cell.size_13 hc1
        have hz2 := Cell.bytes_len l1[i]!
        refine Body.skip ?_
        refine Then.next ?_
        refine Body.seq ?_
        refine Body.region ?_
        refine Ops.u (Dtu.mv (lk rfl)) rfl ?_
        refine Ops.u (Dtu.mv (lk rfl)) rfl ?_
        refine Ops.u (Dtu.cvt Try.underlying3 Try.underlying75 (lk rfl) (wu64 (by omega) (by omega))) rfl ?_
        refine Ops.s (Stp.call rfl Try.call63 (lks rfl) (fun E' le hat => rput_ok E' _ (by omega) (by omega)) ?_) rfl
        rintro _ _ ⟨sp44, rfl, rfl⟩
        refine Ops.s (Stp.append 1 Try.underlying32 ty5 rfl rfl (lk rfl) (lk rfl) (Sl.osl 0 rfl) (by first | rfl | exact all_map (fun _ => rfl) _ | exact all_flat (fun _ => rfl) _) (by omega) (by omega) (fun v45 => ?_)) rfl
        refine Ops.u (Dtu.asg (lk rfl)) rfl ?_
        refine Ops.nil ?_
        refine Then.next ?_
        refine Body.seq ?_
        refine Body.region ?_
        refine Ops.u (Dtu.mv (lk rfl)) rfl ?_
        refine Ops.u (Dtu.fld fa30_0 (lk rfl)) rfl ?_
        refine Ops.u (Dtu.fld fa28_2 (lk rfl)) rfl ?_
        refine Ops.d (Det.ld Try.isAgg26 (lk rfl) (Rd.ow 2 rfl rfl)) rfl ?_
        refine Ops.u (Dtu.mv (lk rfl)) rfl ?_
        refine Ops.u (Dtu.ix (i := (i)) Try.underlying26 Try.sizeOf65 (Sl.up h) (lk rfl) (lk rfl) (by omega) (by omega)) rfl ?_
        refine Ops.d (Det.lda Try.isAgg65 Try.sizeOf65 (lk rfl) (Rds.sl (Sl.up h) (gf (sz := 11) (fun _ => rfl) (by omega))) rfl) rfl ?_
        refine Ops.s (Stp.call rfl Try.call37 (lks rfl) (fun E' le hat => rputCell_ok E' ⟨_, _, _, _⟩ (by constructor <;> assumption) (by assumption)) ?_) rfl
        rintro _ _ ⟨s53, hz53, rfl, rfl⟩
        refine Ops.s (Stp.append 2 Try.underlying32 ty5 rfl rfl (lk rfl) (lk rfl) (Sl.osl 0 rfl) (by first | rfl | exact all_map (fun _ => rfl) _ | exact all_flat (fun _ => rfl) _) (by omega) (by omega) (fun v54 => ?_)) rfl
        refine Ops.u (Dtu.asg (lk rfl)) rfl ?_
        refine Ops.nil ?_
        refine Then.next ?_
        refine Body.region ?_
        refine Ops.u (Dtu.asg (lk rfl)) rfl ?_
        refine Ops.nil ?_
        refine Blk.norm ?_
        refine Then.next ?_
        refine Body.region ?_
        refine Ops.u (Dtu.mv (lk rfl)) rfl ?_
        refine Ops.u (Dtu.add (lk rfl) (lk rfl) (w64 (by omega) (by omega))) rfl ?_
        refine Ops.u (Dtu.asg (lk rfl)) rfl ?_
        refine Ops.nil ?_
        refine Round.goK [2, 2] (i + 1, 0, v54, bs ++ putL ((n : Int) + 1) ++ l1[i]!.bytes) rfl rfl rfl ⟨int_eq (by simp), rfl, rfl, trivial⟩ rfl ?_ ⟨by dsimp only; omega, by dsimp only; omega, ?_, ?_⟩ (by dsimp only; omega)
        · simp [putL_len, Cell.bytes_len, Nat.add_assoc]
        · dsimp only
          rw [← hbs, runsN_other (xs := l1.drop i) (n := n) (by simp; omega) hne, e0, List.drop_drop]
          simp
        · dsimp only
          simp only [List.length_append, putL_len]
          omega
    · have hne : ¬ (1 < (l1.drop i).length ∧ (l1.drop i)[1]! = (l1.drop i)[0]!) := fun ⟨e, _⟩ => by simp at e; omega
      have hz := sizeS_le ((n : Int) + 1)
      have hz1 : bs.length ≤ 20000 := by omega
      have hz3 := Cell.size_13 hc1
      have hz2 := Cell.bytes_len l1[i]!
      refine AB.gn 8 rfl (by decide +kernel) rfl rfl rfl rfl rfl ?_
      refine AB.gn 9 rfl (by decide +kernel) rfl rfl rfl rfl rfl ?_
      refine AB.gn 10 rfl (by decide +kernel) rfl rfl rfl rfl rfl ?_
      refine AB.gn 11 rfl (by decide +kernel) rfl rfl rfl rfl rfl ?_
      refine AB.gn 12 rfl (by decide +kernel) rfl rfl rfl rfl rfl ?_
      refine AB.gn 13 rfl (by decide +kernel) rfl rfl rfl rfl rfl ?_
      refine AB.gn 14 rfl (by decide +kernel) rfl rfl rfl rfl rfl ?_
      refine AB.gn 15 rfl (by decide +kernel) rfl rfl rfl rfl rfl ?_
      refine AB.gn 16 rfl (by decide +kernel) rfl rfl rfl rfl rfl ?_
      refine AB.gn 17 rfl (by decide +kernel) rfl rfl rfl rfl rfl ?_
      refine AB.gn 18 rfl (by decide +kernel) rfl rfl rfl rfl rfl ?_
      refine AB.gn 19 rfl (by decide +kernel) rfl rfl rfl rfl rfl ?_
      refine AB.gn 20 rfl (by decide +kernel) rfl rfl rfl rfl rfl ?_
      refine AB.gn 21 rfl (by decide +kernel) rfl rfl rfl rfl rfl ?_
      refine AB.u 22 rfl (by decide +kernel) (Dtu.pickF (lk rfl) (lk rfl)) rfl ?_
      refine AB.done (by decide +kernel) ?_
      refine Then.next ?_
      refine Body.condF (lk rfl) ?_
      refine Body.skip ?_
      refine Then.next ?_
      refine Body.seq ?_
      refine Body.region ?_
      refine Ops.u (Dtu.mv (lk rfl)) rfl ?_
      refine Ops.u (Dtu.mv (lk rfl)) rfl ?_
      refine Ops.u (Dtu.cvt Try.underlying3 Try.underlying75 (lk rfl) (wu64 (by omega) (by omega))) rfl ?_
      refine Ops.s (Stp.call rfl Try.call63 (lks rfl) (fun E' le hat => rput_ok E' _ (by omega) (by omega)) ?_) rfl
      rintro _ _ ⟨sp44, rfl, rfl⟩
      refine Ops.s (Stp.append 1 Try.underlying32 ty5 rfl rfl (lk rfl) (lk rfl) (Sl.osl 0 rfl) (by first | rfl | exact all_map (fun _ => rfl) _ | exact all_flat (fun _ => rfl) _) (by omega) (by omega) (fun v45 => ?_)) rfl
      refine Ops.u (Dtu.asg (lk rfl)) rfl ?_
      refine Ops.nil ?_
      refine Then.next ?_
      refine Body.seq ?_
      refine Body.region ?_
      refine Ops.u (Dtu.mv (lk rfl)) rfl ?_
      refine Ops.u (Dtu.fld fa30_0 (lk rfl)) rfl ?_
      refine Ops.u (Dtu.fld fa28_2 (lk rfl)) rfl ?_
      refine Ops.d (Det.ld Try.isAgg26 (lk rfl) (Rd.ow 2 rfl rfl)) rfl ?_
      refine Ops.u (Dtu.mv (lk rfl)) rfl ?_
      refine Ops.u (Dtu.ix (i := (i)) Try.underlying26 Try.sizeOf65 (Sl.up h) (lk rfl) (lk rfl) (by omega) (by omega)) rfl ?_
      refine Ops.d (Det.lda Try.isAgg65 Try.sizeOf65 (lk rfl) (Rds.sl (Sl.up h) (gf (sz := 11) (fun _ => rfl) (by omega))) rfl) rfl ?_
      refine Ops.s (Stp.call rfl Try.call37 (lks rfl) (fun E' le hat => rputCell_ok E' ⟨_, _, _, _⟩ (by constructor <;> assumption) (by assumption)) ?_) rfl
      rintro _ _ ⟨s53, hz53, rfl, rfl⟩
      refine Ops.s (Stp.append 2 Try.underlying32 ty5 rfl rfl (lk rfl) (lk rfl) (Sl.osl 0 rfl) (by first | rfl | exact all_map (fun _ => rfl) _ | exact all_flat (fun _ => rfl) _) (by omega) (by omega) (fun v54 => ?_)) rfl
      refine Ops.u (Dtu.asg (lk rfl)) rfl ?_
      refine Ops.nil ?_
      refine Then.next ?_
      refine Body.region ?_
      refine Ops.u (Dtu.asg (lk rfl)) rfl ?_
      refine Ops.nil ?_
      refine Blk.norm ?_
      refine Then.next ?_
      refine Body.region ?_
      refine Ops.u (Dtu.mv (lk rfl)) rfl ?_
      refine Ops.u (Dtu.add (lk rfl) (lk rfl) (w64 (by omega) (by omega))) rfl ?_
      refine Ops.u (Dtu.asg (lk rfl)) rfl ?_
      refine Ops.nil ?_
      refine Round.goK [2, 2] (i + 1, 0, v54, bs ++ putL ((n : Int) + 1) ++ l1[i]!.bytes) rfl rfl rfl ⟨int_eq (by simp), rfl, rfl, trivial⟩ rfl ?_ ⟨by dsimp only; omega, by dsimp only; omega, ?_, ?_⟩ (by dsimp only; omega)
      · simp [putL_len, Cell.bytes_len, Nat.add_assoc]
      · dsimp only
        rw [← hbs, runsN_other (xs := l1.drop i) (n := n) (by simp; omega) hne, e0, List.drop_drop]
        simp
      · dsimp only
        simp only [List.length_append, putL_len]
        omega
  · obtain rfl : i = l1.length := by omega
    have hb : bs = B := by rw [← hbs]; simp [runsN]
    subst hb
    refine Body.exit ?_
    refine Then.exit ?_
    refine Round.exit ?_
    refine Blk.here ?_
    refine Then.next ?_
    refine Body.seq ?_
    refine Body.region ?_
    refine Ops.u (Dtu.mv (lk rfl)) rfl ?_
    refine Ops.u (Dtu.asg (lk rfl)) rfl ?_
    refine Ops.nil ?_
    refine Then.next ?_
    refine Body.ret ?_
    exact ⟨.inr rfl, _, pk [0] rfl, O, rfl, rfl⟩
end Go.Proofs.Ytijjjdljdjnbaaa
