/- A view's bytes. -/
import Derived.Test.YtijjjdljdjnbaaaViewB
namespace Go.Proofs.Ytijjjdljdjnbaaa
set_option maxRecDepth 100000
set_option linter.unusedVariables false
set_option linter.unusedSimpArgs false
open Go.Sx

/-- the bytes of n cells c and of what comes behind them -/
def runsFrom (c : Cell) (n : Nat) : List Cell → List Int
  | [] => putL n ++ c.bytes
  | d :: t => if d = c then runsFrom c (n + 1) t else putL n ++ c.bytes ++ runsFrom d 1 t
def runsB : List Cell → List Int
  | [] => []
  | c :: t => runsFrom c 1 t
def View.head (v : View) : List Int := [v.rows, v.cols, v.row, v.col, if v.vis then 1 else 0]
def View.bytes (v : View) : List Int := v.head ++ runsB v.cells
theorem runs_same {xs : List Cell} {c : Cell} {n : Nat} (hn : n < xs.length) (h : xs[n]! = c) : runsFrom c n (xs.drop n) = runsFrom c (n + 1) (xs.drop (n + 1)) := by
  rw [getElem!_pos xs n hn] at h
  rw [List.drop_eq_getElem_cons hn, h]
  simp [runsFrom]
theorem runs_other {xs : List Cell} {c : Cell} {n : Nat} (h : n < xs.length → xs[n]! ≠ c) : runsFrom c n (xs.drop n) = putL n ++ c.bytes ++ runsB (xs.drop n) := by
  by_cases hn : n < xs.length
  · have h' := h hn
    rw [getElem!_pos xs n hn] at h'
    rw [List.drop_eq_getElem_cons hn]
    simp [runsFrom, runsB, h']
  · rw [List.drop_eq_nil_of_le (by omega)]
    simp [runsFrom, runsB]
theorem runs_head {xs : List Cell} (h : 0 < xs.length) : runsB xs = runsFrom xs[0]! 1 (xs.drop 1) := by
  cases xs with
  | nil => simp at h
  | cons c t => rfl
theorem Cell.bytes_len (c : Cell) : c.bytes.length = c.size := by
  simp [Cell.bytes, Cell.styleB, Cell.size, Cell.styleN, putL_len]; omega
theorem write_no (E : Env) (v : View) (s : Value) (h : v.has E [] s) (hk : v.ok = false) : Does Try.prog 28 #[v.val s] E [] fun r H' => r = .tuple #[.slice none 0 0, .int .i64 3] ∧ H' = [] := by
  unfold View.has at h
  refine Does.pure h.isSl fun hsl => ?_
  obtain ⟨a, m, c, rfl⟩ := hsl
  refine Does.go (args := [v.val _]) _ _ Try.func28 rfl Try.ntmps28 rfl rfl ?_
  refine Body.seq ?_
  refine Body.region ?_
  refine Ops.s (Stp.box (lk rfl) rfl (fun b1 => ?_)) rfl
  refine Ops.u (Dtu.asg (lk rfl)) rfl ?_
  refine Ops.u (Dtu.asg (lk rfl)) rfl ?_
  refine Ops.nil ?_
  refine Then.next ?_
  refine Body.seq ?_
  refine Body.seq ?_
  refine Body.region ?_
  refine Ops.d (Det.lda Try.isAgg24 Try.sizeOf24 (lk rfl) (Rds.ow (m := 6) 0 rfl rfl) rfl) rfl ?_
  refine Ops.s (Stp.call rfl Try.call25 (lks rfl) (fun E' le hat => right_ok E' ⟨_, _, _, _, _, _⟩ _ (Sl.mono (by assumption) le)) ?_) rfl
  rintro _ _ ⟨rfl, rfl⟩
  refine Ops.u (Dtu.not (lk rfl)) rfl ?_
  refine Ops.nil ?_
  refine Then.next ?_
  refine Body.cond (lk rfl) (fun _ => ?_) (fun hn => absurd hn (by simp [hk]))
  refine Body.seq ?_
  refine Body.region ?_
  refine Ops.u (Dtu.asg (lk rfl)) rfl ?_
  refine Ops.u (Dtu.asg (lk rfl)) rfl ?_
  refine Ops.nil ?_
  refine Then.next ?_
  refine Body.ret ?_
  refine Then.ret ?_
  exact ⟨.inr rfl, _, pk [] rfl, rfl, rfl⟩
theorem write_ok (E : Env) (v : View) (s : Value) (h : v.has E [] s) (hk : v.ok = true) : Does Try.prog 28 #[v.val s] E [] fun r H' => ∃ s, r = .tuple #[s, .int .i64 0] ∧ H' = [osl 5 1 s v.bytes.length (v.bytes.map (.int .u8))] := by
  unfold View.has at h
  have hf : v.fits ∧ v.cells.all Cell.ok = true := by simpa [View.ok] using hk
  obtain ⟨hfit, hall⟩ := hf
  obtain ⟨hrc, f1, f2, f3, f4, f5⟩ := hfit
  have hmb := mul_bound hrc
  refine Does.pure h.isSl fun hsl => ?_
  obtain ⟨a, m, c, rfl⟩ := hsl
  refine Does.go (args := [v.val _]) _ _ Try.func28 rfl Try.ntmps28 rfl rfl ?_
  refine Body.seq ?_
  refine Body.region ?_
  refine Ops.s (Stp.box (lk rfl) rfl (fun b1 => ?_)) rfl
  refine Ops.u (Dtu.asg (lk rfl)) rfl ?_
  refine Ops.u (Dtu.asg (lk rfl)) rfl ?_
  refine Ops.nil ?_
  refine Then.next ?_
  refine Body.seq ?_
  refine Body.seq ?_
  refine Body.region ?_
  refine Ops.d (Det.lda Try.isAgg24 Try.sizeOf24 (lk rfl) (Rds.ow (m := 6) 0 rfl rfl) rfl) rfl ?_
  refine Ops.s (Stp.call rfl Try.call25 (lks rfl) (fun E' le hat => right_ok E' ⟨_, _, _, _, _, _⟩ _ (Sl.mono (by assumption) le)) ?_) rfl
  rintro _ _ ⟨rfl, rfl⟩
  refine Ops.u (Dtu.not (lk rfl)) rfl ?_
  refine Ops.nil ?_
  refine Then.next ?_
  refine Body.cond (lk rfl) (fun hn => absurd hn (by simp [hk])) (fun _ => ?_)
  refine Body.skip ?_
  refine Then.next ?_
  refine Body.seq ?_
  refine Body.region ?_
  refine Ops.u (Dtu.fld fa24_0 (lk rfl)) rfl ?_
  refine Ops.d (Det.ld Try.isAgg3 (lk rfl) (Rd.ow 0 rfl rfl)) rfl ?_
  refine Ops.u (Dtu.cvt Try.underlying3 Try.underlying5 (lk rfl) (wu8 (by omega) (by omega))) rfl ?_
  refine Ops.u (Dtu.fld fa24_1 (lk rfl)) rfl ?_
  refine Ops.d (Det.ld Try.isAgg3 (lk rfl) (Rd.ow 0 rfl rfl)) rfl ?_
  refine Ops.u (Dtu.cvt Try.underlying3 Try.underlying5 (lk rfl) (wu8 (by omega) (by omega))) rfl ?_
  refine Ops.u (Dtu.fld fa24_3 (lk rfl)) rfl ?_
  refine Ops.d (Det.ld Try.isAgg3 (lk rfl) (Rd.ow 0 rfl rfl)) rfl ?_
  refine Ops.u (Dtu.cvt Try.underlying3 Try.underlying5 (lk rfl) (wu8 (by omega) (by omega))) rfl ?_
  refine Ops.u (Dtu.fld fa24_4 (lk rfl)) rfl ?_
  refine Ops.d (Det.ld Try.isAgg3 (lk rfl) (Rd.ow 0 rfl rfl)) rfl ?_
  refine Ops.u (Dtu.cvt Try.underlying3 Try.underlying5 (lk rfl) (wu8 (by omega) (by omega))) rfl ?_
  refine Ops.s (Stp.buildSliceO Try.underlying32 ty5 (by decide) (by decide) (lkp rfl) rfl rfl rfl (by decide) (fun v26 => ?_)) rfl
  refine Ops.u (Dtu.asg (lk rfl)) rfl ?_
  refine Ops.nil ?_
  refine Then.next ?_
  refine Body.seqJ (γ := Unit) rfl (fun _ => [(4, v26)]) (fun _ => [osl 5 1 v26 5 (v.head.map (.int .u8)), own b1 [.int .i64 v.rows, .int .i64 v.cols, .slice a m c, .int .i64 v.row, .int .i64 v.col, .bool v.vis] 24]) (fun _ => True) ?_ ?_
  · refine Body.seq ?_
    refine Body.region ?_
    refine Ops.u (Dtu.fld fa24_5 (lk rfl)) rfl ?_
    refine Ops.d (Det.ld Try.isAgg4 (lk rfl) (Rd.ow 1 rfl rfl)) rfl ?_
    refine Ops.nil ?_
    refine Then.next ?_
    refine Body.cond (lk rfl) (fun c28 => ?_) (fun c28 => ?_)
    · refine Body.region ?_
      refine Ops.u (Dtu.mv (lk rfl)) rfl ?_
      refine Ops.u (Dtu.ix (i := 4) Try.underlying32 Try.sizeOf5 (Sl.osl 0 rfl) (lk rfl) (lk rfl) (by omega) (by omega)) rfl ?_
      refine Ops.e (Stp.storeS 0 (us := [_]) Try.sizeOf5 rfl (lk rfl) (lk rfl) rfl (by simp <;> omega) (by simp) rfl ?_)
      refine Ops.nil ?_
      exact Joint.goK [0, 0] () rfl rfl rfl ⟨rfl, trivial⟩ rfl (by simp [View.head, c28]) trivial
    · refine Body.skip ?_
      exact Joint.goK [0, 0] () rfl rfl rfl ⟨rfl, trivial⟩ rfl (by simp [View.head, c28]) trivial
  · intro _ u _
    refine Body.seq ?_
    refine Body.region ?_
    refine Ops.u (Dtu.fld fa24_2 (lk rfl)) rfl ?_
    refine Ops.d (Det.ld Try.isAgg22 (lk rfl) (Rd.ow 1 rfl rfl)) rfl ?_
    refine Ops.u (Dtu.asg (lk rfl)) rfl ?_
    refine Ops.nil ?_
    refine Then.next ?_
    refine Body.seq ?_
    refine Body.block ?_
    have hb0 : v.head.length = 5 := rfl
    refine Body.loopF (γ := List Cell × Value × Value × List Int) rfl (fun g => [(5, g.2.1), (4, g.2.2.1)])
      (fun g => [osl 5 1 g.2.2.1 g.2.2.2.length (g.2.2.2.map (.int .u8)), own b1 [.int .i64 v.rows, .int .i64 v.cols, .slice a m c, .int .i64 v.row, .int .i64 v.col, .bool v.vis] 24])
      (fun g => Sl E [] 4 g.2.1 g.1.length (g.1.flatMap Cell.enc) ∧ g.2.2.2 ++ runsB g.1 = v.bytes ∧ g.2.2.2.length + 40 * g.1.length ≤ 20000 ∧ g.1.all Cell.ok = true)
      (fun g => g.1.length) (v.cells, .slice a m c, v26, v.head) ⟨h, rfl, by simp only [hb0]; omega, hall⟩ ⟨rfl, rfl, trivial⟩ rfl ?_
    rintro ⟨xs, R, O, bs⟩ u ⟨hR, hbs, hn, hok⟩
    dsimp only at hR hbs hn hok ⊢
    refine Body.seq ?_
    refine Body.seq ?_
    refine Body.region ?_
    refine Ops.u (Dtu.mv (lk rfl)) rfl ?_
    refine Ops.u (Dtu.lenS Try.underlying22 (Sl.up hR) (lk rfl)) rfl ?_
    refine Ops.u (Dtu.gtr (lk rfl) (lk rfl)) rfl ?_
    refine Ops.nil ?_
    refine Then.next ?_
    refine Body.condP (lk rfl) (fun c35 => ?_) (fun c35 => ?_)
    · have hx0 : 0 < xs.length := by omega
      refine Body.skip ?_
      refine Then.next ?_
      refine Body.block ?_
      refine Body.seq ?_
      refine Body.region ?_
      refine Ops.u (Dtu.asg (lk rfl)) rfl ?_
      refine Ops.nil ?_
      refine Then.next ?_
      refine Body.seqJ (γ := Nat) rfl (fun n => [(6, .int .i64 n)]) (fun _ => [osl 5 1 O bs.length (bs.map (.int .u8)), own b1 [.int .i64 v.rows, .int .i64 v.cols, .slice a m c, .int .i64 v.row, .int .i64 v.col, .bool v.vis] 24])
        (fun n => 1 ≤ n ∧ n ≤ xs.length ∧ runsB xs = putL n ++ xs[0]!.bytes ++ runsB (xs.drop n)) ?_ ?_
      · refine Body.block ?_
        refine Body.loopF (γ := Nat) rfl (fun n => [(6, .int .i64 n)]) (fun _ => [osl 5 1 O bs.length (bs.map (.int .u8)), own b1 [.int .i64 v.rows, .int .i64 v.cols, .slice a m c, .int .i64 v.row, .int .i64 v.col, .bool v.vis] 24])
          (fun n => 1 ≤ n ∧ n ≤ xs.length ∧ runsB xs = runsFrom xs[0]! n (xs.drop n)) (fun n => xs.length - n) 1 ⟨by omega, by omega, runs_head hx0⟩ ⟨rfl, trivial⟩ rfl ?_
        rintro n u2 ⟨hn1, hn2, hr⟩
        refine Body.seq ?_
        refine Body.seq ?_
        refine Body.draw mixed ?_
        refine AB.u 0 rfl (by decide +kernel) (Dtu.mv (lk rfl)) rfl ?_
        refine AB.u 1 rfl (by decide +kernel) (Dtu.mv (lk rfl)) rfl ?_
        refine AB.u 2 rfl (by decide +kernel) (Dtu.lenS Try.underlying22 (Sl.up hR) (lk rfl)) rfl ?_
        refine AB.u 3 rfl (by decide +kernel) (Dtu.lss (lk rfl) (lk rfl)) rfl ?_
        refine AB.u 4 rfl (by decide +kernel) (Dtu.mv (lk rfl)) rfl ?_
        refine AB.decP 40 rfl (fun c40 => ?_) (fun c40 => ?_)
        · refine AB.gu 5 rfl (by decide +kernel) rfl rfl rfl (Dtu.mv (lk rfl)) rfl ?_
          refine AB.gu 6 rfl (by decide +kernel) rfl rfl rfl (Dtu.mv (lk rfl)) rfl ?_
          refine AB.gu 7 rfl (by decide +kernel) rfl rfl rfl (Dtu.ix (i := (n)) Try.underlying22 Try.sizeOf55 (Sl.up hR) (lk rfl) (lk rfl) (by omega) (by omega)) rfl ?_
          refine AB.gd 8 rfl (by decide +kernel) rfl rfl rfl rfl (Det.lda Try.isAgg55 Try.sizeOf55 (lk rfl) (Rds.sl (Sl.up hR) (gf (sz := 4) (fun _ => rfl) (by omega))) rfl) rfl ?_
          refine AB.gu 9 rfl (by decide +kernel) rfl rfl rfl (Dtu.mv (lk rfl)) rfl ?_
          refine AB.gu 10 rfl (by decide +kernel) rfl rfl rfl (Dtu.ix (i := 0) Try.underlying22 Try.sizeOf55 (Sl.up hR) (lk rfl) (lk rfl) (by omega) (by omega)) rfl ?_
          refine AB.gd 11 rfl (by decide +kernel) rfl rfl rfl rfl (Det.lda Try.isAgg55 Try.sizeOf55 (lk rfl) (Rds.sl (Sl.up hR) (gf (sz := 4) (fun _ => rfl) (by omega))) rfl) rfl ?_
          refine AB.gu 12 rfl (by decide +kernel) rfl rfl rfl (Dtu.eqS eqGuard55 (eq55 _ _) (lk rfl) (lk rfl)) rfl ?_
          refine AB.u 13 rfl (by decide +kernel) (Dtu.pickT (lk rfl) (lk rfl)) rfl ?_
          refine AB.done (by decide +kernel) ?_
          refine Then.next ?_
          refine Body.condP (lk rfl) (fun c49 => ?_) (fun c49 => ?_)
          · refine Body.skip ?_
            refine Then.next ?_
            refine Body.block ?_
            refine Body.region ?_
            refine Ops.u (Dtu.mv (lk rfl)) rfl ?_
            refine Ops.u (Dtu.add (lk rfl) (lk rfl) (w64 (by omega) (by omega))) rfl ?_
            refine Ops.u (Dtu.asg (lk rfl)) rfl ?_
            refine Ops.nil ?_
            refine Blk.norm ?_
            exact Round.goF (n + 1) rfl rfl rfl ⟨int_eq (by omega), trivial⟩ rfl ⟨by omega, by omega, by rw [hr, runs_same (by omega) (by simpa using c49)]⟩ (by omega)
          · refine Body.exit ?_
            refine Then.exit ?_
            refine Round.exit ?_
            refine Blk.here ?_
            exact Joint.goK [0, 0] n rfl rfl rfl ⟨rfl, trivial⟩ rfl rfl ⟨hn1, hn2, by rw [hr, runs_other (fun _ => by simpa using c49)]⟩
        · refine AB.gn 5 rfl (by decide +kernel) rfl rfl rfl rfl rfl ?_
          refine AB.gn 6 rfl (by decide +kernel) rfl rfl rfl rfl rfl ?_
          refine AB.gn 7 rfl (by decide +kernel) rfl rfl rfl rfl rfl ?_
          refine AB.gn 8 rfl (by decide +kernel) rfl rfl rfl rfl rfl ?_
          refine AB.gn 9 rfl (by decide +kernel) rfl rfl rfl rfl rfl ?_
          refine AB.gn 10 rfl (by decide +kernel) rfl rfl rfl rfl rfl ?_
          refine AB.gn 11 rfl (by decide +kernel) rfl rfl rfl rfl rfl ?_
          refine AB.gn 12 rfl (by decide +kernel) rfl rfl rfl rfl rfl ?_
          refine AB.u 13 rfl (by decide +kernel) (Dtu.pickF (lk rfl) (lk rfl)) rfl ?_
          refine AB.done (by decide +kernel) ?_
          refine Then.next ?_
          refine Body.condF (lk rfl) ?_
          refine Body.exit ?_
          refine Then.exit ?_
          refine Round.exit ?_
          refine Blk.here ?_
          exact Joint.goK [0, 0] n rfl rfl rfl ⟨rfl, trivial⟩ rfl rfl ⟨hn1, hn2, by rw [hr, runs_other (fun h => absurd h (by omega))]⟩
      · rintro n u2 ⟨hn1, hn2, hr⟩
        have hc0 : xs[0]!.ok = true := by
          rw [getElem!_pos xs 0 hx0]; exact List.all_eq_true.1 hok _ (List.getElem_mem _)
        have hs5 := Sl.subF (enc := Cell.enc) (sz := 4) (fun c => rfl) hR n xs.length hn2 (Nat.le_refl _)
        rw [List.take_of_length_le (by simp)] at hs5
        refine Body.seq ?_
        refine Body.region ?_
        refine Ops.u (Dtu.mv (lk rfl)) rfl ?_
        refine Ops.u (Dtu.cvt Try.underlying3 Try.underlying75 (lk rfl) (wu64 (by omega) (by omega))) rfl ?_
        refine Ops.s (Stp.call rfl Try.call73 (lks rfl) (fun E' le hat => put_fine E' _ (by omega) (by omega)) ?_) rfl
        rintro _ _ ⟨s55, hz55, rfl, rfl⟩
        refine Ops.u (Dtu.mv (lk rfl)) rfl ?_
        refine Ops.u (Dtu.ext (lk rfl) rfl) rfl ?_
        refine Ops.u (Dtu.ext (lk rfl) rfl) rfl ?_
        refine Ops.u (Dtu.asg (lk rfl)) rfl ?_
        refine Ops.u (Dtu.asg (lk rfl)) rfl ?_
        refine Ops.nil ?_
        refine Then.next ?_
        refine Body.seq ?_
        refine Body.region ?_
        refine Ops.u (Dtu.mv (lk rfl)) rfl ?_
        refine Ops.u (Dtu.ix (i := 0) Try.underlying22 Try.sizeOf55 (Sl.up hR) (lk rfl) (lk rfl) (by omega) (by omega)) rfl ?_
        refine Ops.d (Det.lda Try.isAgg55 Try.sizeOf55 (lk rfl) (Rds.sl (Sl.up hR) (gf (sz := 4) (fun _ => rfl) (by omega))) rfl) rfl ?_
        refine Ops.s (Stp.call rfl Try.call33 (lks rfl) (fun E' le hat => putCell_ok E' _ (by assumption)) ?_) rfl
        rintro _ _ ⟨s62, hz62, rfl, rfl⟩
        refine Ops.u (Dtu.mv (lk rfl)) rfl ?_
        refine Ops.u (Dtu.ext (lk rfl) rfl) rfl ?_
        refine Ops.u (Dtu.ext (lk rfl) rfl) rfl ?_
        refine Ops.u (Dtu.asg (lk rfl)) rfl ?_
        refine Ops.u (Dtu.asg (lk rfl)) rfl ?_
        refine Ops.nil ?_
        refine Then.next ?_
        refine Body.seq ?_
        refine Body.seq ?_
        refine Body.region ?_
        refine Ops.u (Dtu.mv (lk rfl)) rfl ?_
        refine Ops.u (Dtu.neq (lk rfl) (lk rfl)) rfl ?_
        refine Ops.nil ?_
        refine Then.next ?_
        refine Body.condP (lk rfl) (fun hy => absurd hy (by first | omega | assumption | decide)) (fun _ => ?_)
        refine Body.skip ?_
        refine Then.next ?_
        refine Body.seq ?_
        refine Body.region ?_
        refine Ops.u (Dtu.mv (lk rfl)) rfl ?_
        refine Ops.u (Dtu.mv (lk rfl)) rfl ?_
        refine Ops.s (Stp.append 2 Try.underlying32 ty5 rfl rfl (lk rfl) (lk rfl) (Sl.osl 1 rfl) (by first | rfl | exact all_map (fun _ => rfl) _ | exact all_flat (fun _ => rfl) _) (by omega) (by omega) (fun v70 => ?_)) rfl
        refine Ops.u (Dtu.mv (lk rfl)) rfl ?_
        refine Ops.s (Stp.append 2 Try.underlying32 ty5 rfl rfl (lk rfl) (lk rfl) (Sl.osl 0 rfl) (by first | rfl | exact all_map (fun _ => rfl) _ | exact all_flat (fun _ => rfl) _) (by omega) (by omega) (fun v72 => ?_)) rfl
        refine Ops.u (Dtu.asg (lk rfl)) rfl ?_
        refine Ops.nil ?_
        refine Then.next ?_
        refine Body.region ?_
        refine Ops.u (Dtu.mv (lk rfl)) rfl ?_
        refine Ops.u (Dtu.mv (lk rfl)) rfl ?_
        refine Ops.u (Dtu.slL (n) Try.underlying22 Try.sizeOf55 (Sl.up hR) (lk rfl) (lk rfl) (by omega) (by omega)) rfl ?_
        refine Ops.u (Dtu.asg (lk rfl)) rfl ?_
        refine Ops.nil ?_
        refine Blk.norm ?_
        refine Round.goK [2, 2] (xs.drop n, subSl R 4 n xs.length (capOf R), v72, bs ++ putL n ++ xs[0]!.bytes) rfl rfl rfl ⟨rfl, rfl, trivial⟩ rfl ?_ ⟨?_, ?_, ?_, ?_⟩ ?_
        · simp [putL_len, Cell.bytes_len, Nat.add_assoc]
        · rw [List.length_drop]; exact hs5
        · rw [← hbs, hr]; simp
        · simp only [List.length_append, List.length_drop, putL_len, Cell.bytes_len]; omega
        · rw [List.all_eq_true] at hok ⊢
          exact fun c hc => hok c (List.mem_of_mem_drop hc)
        · simp only [List.length_drop]; omega
    · refine Body.exit ?_
      refine Then.exit ?_
      refine Round.exit ?_
      refine Blk.here ?_
      refine Then.next ?_
      refine Body.seq ?_
      refine Body.region ?_
      refine Ops.u (Dtu.mv (lk rfl)) rfl ?_
      refine Ops.u (Dtu.asg (lk rfl)) rfl ?_
      refine Ops.u (Dtu.asg (lk rfl)) rfl ?_
      refine Ops.nil ?_
      refine Then.next ?_
      refine Body.ret ?_
      have hx : xs = [] := List.length_eq_zero_iff.1 (by omega)
      subst hx
      have hb : bs = v.bytes := by rw [← hbs]; simp [runsB]
      subst hb
      exact ⟨.inr rfl, _, pk [0] rfl, O, rfl, rfl⟩
end Go.Proofs.Ytijjjdljdjnbaaa
