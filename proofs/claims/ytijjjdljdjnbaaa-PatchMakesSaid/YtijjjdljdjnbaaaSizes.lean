/- ViewSizes. -/
import Derived.Test.YtijjjdljdjnbaaaAlive20
namespace Go.Proofs.Ytijjjdljdjnbaaa
set_option maxRecDepth 100000
set_option linter.unusedVariables false
set_option linter.unusedSimpArgs false
open Go.Sx

theorem sizeS_4 {v : Int} (h : v < 1073741824) : sizeS v ≤ 4 := by
  unfold sizeS classS; (repeat' split) <;> simp_all <;> omega
theorem sizeS_2 {v : Int} (h : v < 16384) : sizeS v ≤ 2 := by
  unfold sizeS classS; (repeat' split) <;> simp_all <;> omega
theorem Cell.size_13 {c : Cell} (h : c.ok = true) : c.size ≤ 13 := by
  have hk : isPt c.pt = true ∧ isCol c.fg = true ∧ isCol c.bg = true := by simpa [Cell.ok, okCell, okSty] using h
  have b1 := isPt_bound hk.1
  have b2 := isCol_bound hk.2.1
  have b3 := isCol_bound hk.2.2
  have := sizeS_4 (v := c.pt) (by omega)
  have := sizeS_4 (v := c.fg) (by omega)
  have := sizeS_4 (v := c.bg) (by omega)
  unfold Cell.size Cell.styleN; omega
theorem runsFrom_low : ∀ (t : List Cell) (c : Cell) (n : Nat), n + t.length < 4611686018427387904 → c.size + 1 ≤ (runsFrom c n t).length
  | [], c, n, h => by
    have := sizeS_pos (v := (n : Int)) (by simp at h; omega)
    simp [runsFrom, putL_len, Cell.bytes_len]; omega
  | d :: t, c, n, h => by
    have := sizeS_pos (v := (n : Int)) (by simp at h; omega)
    simp only [List.length_cons] at h
    simp only [runsFrom]
    split
    · exact runsFrom_low t c (n + 1) (by omega)
    · simp only [List.length_append, putL_len, Cell.bytes_len]; omega
theorem runsFrom_high : ∀ (t : List Cell) (c : Cell) (n : Nat), 1 ≤ n → n + t.length ≤ 480 → c.ok = true → (∀ d ∈ t, d.ok = true) → (runsFrom c n t).length ≤ 15 * (n + t.length)
  | [], c, n, h1, h, hc, _ => by
    have := sizeS_2 (v := (n : Int)) (by simp at h; omega)
    have := Cell.size_13 hc
    simp [runsFrom, putL_len, Cell.bytes_len]; omega
  | d :: t, c, n, h1, h, hc, ht => by
    have h2 := sizeS_2 (v := (n : Int)) (by omega)
    have h3 := Cell.size_13 hc
    simp only [List.length_cons] at h ⊢
    simp only [runsFrom]
    split
    · have := runsFrom_high t c (n + 1) (by omega) (by omega) hc (fun e he => ht e (by simp [he])); omega
    · have := runsFrom_high t d 1 (by omega) (by omega) (ht d (by simp)) (fun e he => ht e (by simp [he]))
      simp only [List.length_append, putL_len, Cell.bytes_len]; omega
theorem runsFrom_one : ∀ (t : List Cell) (c : Cell) (n : Nat), (∀ d ∈ t, d = c) → runsFrom c n t = putL ((n + t.length : Nat) : Int) ++ c.bytes
  | [], c, n, _ => by simp [runsFrom]
  | d :: t, c, n, h => by
    have hd := h d (by simp)
    simp only [runsFrom, hd, if_true]
    rw [runsFrom_one t c (n + 1) (fun e he => h e (by simp [he]))]
    simp only [List.length_cons]
    rw [show n + 1 + t.length = n + (t.length + 1) by omega]
theorem View.sizes {v : View} (h : v.ok = true) : 0 < v.cells.length ∧ v.cells.length ≤ 480 ∧ v.cells[0]!.ok = true ∧ 6 + v.cells[0]!.size ≤ v.bytes.length ∧ v.bytes.length ≤ 5 + 15 * v.cells.length ∧ ((∀ d ∈ v.cells, d = v.cells[0]!) → v.bytes.length ≤ 7 + v.cells[0]!.size) := by
  obtain ⟨⟨hrc, f1, f2, f3, f4, f5⟩, hc⟩ := View.ok_fits h
  have hm := mul_bound hrc
  have hl : v.bytes.length = 5 + (runsB v.cells).length := by simp [View.bytes, View.head]; omega
  have h1 : 0 < v.cells.length := by omega
  have h2 : v.cells.length ≤ 480 := by omega
  rw [hl]
  generalize v.cells = xs at *
  cases xs with
  | nil => simp at h1
  | cons c t =>
    simp only [List.length_cons] at h2 ⊢
    have a0 := hc c (by simp)
    have a1 := runsFrom_low t c 1 (by omega)
    have a2 := runsFrom_high t c 1 (by omega) (by omega) a0 (fun d hd => hc d (by simp [hd]))
    refine ⟨by omega, by omega, a0, ?_, ?_, fun hall => ?_⟩
    · simp only [runsB, List.getElem!_cons_zero]; omega
    · simp only [runsB]; omega
    · have := runsFrom_one t c 1 (fun d hd => hall d (by simp [hd]))
      have h3 := sizeS_2 (v := ((1 + t.length : Nat) : Int)) (by omega)
      simp only [runsB, List.getElem!_cons_zero, this, List.length_append, putL_len, Cell.bytes_len]; omega
theorem take_all {α : Type} [Inhabited α] {p : α → Bool} {l : List α} {i : Nat} (h : i < l.length) : (l.take (i + 1)).all p = ((l.take i).all p && p l[i]!) := by
  rw [List.take_succ_eq_append_getElem h, List.all_append, getElem!_pos l i h]; simp
theorem sizes_ok (E : Env) (v : View) (s : Value) (h : v.has E [] s) : Does Try.prog 10 #[v.val s] E [] fun r H' => r = .bool true ∧ H' = [] := by
  obtain ⟨vr, vc, cells, vo, vl, vv⟩ := v
  unfold View.has at h
  refine Does.pure h.len fun hlen => ?_
  refine Does.pure h.isSl fun hsl => ?_
  obtain ⟨sa, sm, sc, rfl⟩ := hsl
  refine Does.go (args := [View.val ⟨vr, vc, cells, vo, vl, vv⟩ _]) _ _ Try.func10 rfl Try.ntmps10 rfl rfl ?_
  cases hk : View.ok ⟨vr, vc, cells, vo, vl, vv⟩ with
  | false =>
    refine Body.seq ?_
    refine Body.region ?_
    refine Ops.s (Stp.box (lk rfl) rfl (fun b1 => ?_)) rfl
    refine Ops.u (Dtu.asg (lk rfl)) rfl ?_
    refine Ops.nil ?_
    refine Then.next ?_
    refine Body.seq ?_
    refine Body.seq ?_
    refine Body.region ?_
    refine Ops.d (Det.lda Try.isAgg24 Try.sizeOf24 (lk rfl) (Rds.ow (m := 6) 0 rfl rfl) rfl) rfl ?_
    refine Ops.s (Stp.call rfl Try.call25 (lks rfl) (fun E' le hat => right_ok E' ⟨_, _, _, _, _, _⟩ _ (Sl.mono (by assumption) le)) ?_) rfl
    rintro _ _ ⟨rfl, rfl⟩
    refine Ops.u (Dtu.not (lk rfl)) rfl ?_
    refine Ops.nil ?_
    refine Then.next ?_
    refine Body.cond (lk rfl) (fun _ => ?_) (fun hn => absurd hn (by simp [hk]))
    refine Body.seq ?_
    refine Body.region ?_
    refine Ops.s (Stp.call rfl Try.call27 (lks rfl) (fun E' le hat => alive20_ok E') ?_) rfl
    rintro _ _ ⟨rfl, rfl⟩
    refine Ops.u (Dtu.asg (lk rfl)) rfl ?_
    refine Ops.nil ?_
    refine Then.next ?_
    refine Body.ret ?_
    refine Then.ret ?_
    exact ⟨.inr rfl, _, pk [] rfl, rfl, rfl⟩
  | true =>
    obtain ⟨z1, z2, z3, z4, z5, z6⟩ := View.sizes hk
    dsimp only at h hlen z1 z2 z3 z4 z5 z6
    refine Body.seq ?_
    refine Body.region ?_
    refine Ops.s (Stp.box (lk rfl) rfl (fun b1 => ?_)) rfl
    refine Ops.u (Dtu.asg (lk rfl)) rfl ?_
    refine Ops.nil ?_
    refine Then.next ?_
    refine Body.seq ?_
    refine Body.seq ?_
    refine Body.region ?_
    refine Ops.d (Det.lda Try.isAgg24 Try.sizeOf24 (lk rfl) (Rds.ow (m := 6) 0 rfl rfl) rfl) rfl ?_
    refine Ops.s (Stp.call rfl Try.call25 (lks rfl) (fun E' le hat => right_ok E' ⟨_, _, _, _, _, _⟩ _ (Sl.mono (by assumption) le)) ?_) rfl
    rintro _ _ ⟨rfl, rfl⟩
    refine Ops.u (Dtu.not (lk rfl)) rfl ?_
    refine Ops.nil ?_
    refine Then.next ?_
    refine Body.cond (lk rfl) (fun hn => absurd hn (by simp [hk])) (fun _ => ?_)
    refine Body.skip ?_
    refine Then.next ?_
    refine Body.seq ?_
    refine Body.region ?_
    refine Ops.d (Det.lda Try.isAgg24 Try.sizeOf24 (lk rfl) (Rds.ow (m := 6) 0 rfl rfl) rfl) rfl ?_
    refine Ops.s (Stp.call rfl Try.call28 (lks rfl) (fun E' le hat => write_ok E' ⟨_, _, _, _, _, _⟩ _ (Sl.mono (by assumption) le) (by assumption)) ?_) rfl
    rintro _ _ ⟨s15, rfl, rfl⟩
    refine Ops.u (Dtu.mv (lk rfl)) rfl ?_
    refine Ops.u (Dtu.ext (lk rfl) rfl) rfl ?_
    refine Ops.u (Dtu.ext (lk rfl) rfl) rfl ?_
    refine Ops.u (Dtu.asg (lk rfl)) rfl ?_
    refine Ops.u (Dtu.asg (lk rfl)) rfl ?_
    refine Ops.nil ?_
    refine Then.next ?_
    refine Body.seq ?_
    refine Body.region ?_
    refine Ops.u (Dtu.fld fa24_2 (lk rfl)) rfl ?_
    refine Ops.d (Det.ld Try.isAgg22 (lk rfl) (Rd.ow 1 rfl rfl)) rfl ?_
    refine Ops.u (Dtu.ix (i := 0) Try.underlying22 Try.sizeOf55 (Sl.up h) (lk rfl) (lk rfl) (by omega) (by omega)) rfl ?_
    refine Ops.d (Det.lda Try.isAgg55 Try.sizeOf55 (lk rfl) (Rds.sl (Sl.up h) (gf (sz := 4) (fun _ => rfl) (by omega))) rfl) rfl ?_
    refine Ops.s (Stp.call rfl Try.call33 (lks rfl) (fun E' le hat => putCell_ok E' _ (by assumption)) ?_) rfl
    rintro _ _ ⟨s23, hz23, rfl, rfl⟩
    refine Ops.u (Dtu.mv (lk rfl)) rfl ?_
    refine Ops.u (Dtu.ext (lk rfl) rfl) rfl ?_
    refine Ops.u (Dtu.ext (lk rfl) rfl) rfl ?_
    refine Ops.u (Dtu.asg (lk rfl)) rfl ?_
    refine Ops.u (Dtu.asg (lk rfl)) rfl ?_
    refine Ops.nil ?_
    refine Then.next ?_
    refine Body.seq ?_
    refine Body.seq ?_
    refine Body.region ?_
    refine Ops.u (Dtu.mv (lk rfl)) rfl ?_
    refine Ops.u (Dtu.neq (lk rfl) (lk rfl)) rfl ?_
    refine Ops.u (Dtu.mv (lk rfl)) rfl ?_
    refine Ops.decP 28 rfl (fun hy => absurd hy (by first | omega | assumption | decide)) (fun _ => ?_)
    refine Ops.gu rfl rfl rfl (Dtu.mv (lk rfl)) rfl ?_
    refine Ops.gu rfl rfl rfl (Dtu.neq (lk rfl) (lk rfl)) rfl ?_
    refine Ops.u (Dtu.pickF (lk rfl) (lk rfl)) rfl ?_
    refine Ops.u (Dtu.mv (lk rfl)) rfl ?_
    refine Ops.decP 32 rfl (fun hy => absurd hy (by first | omega | assumption | decide)) (fun _ => ?_)
    refine Ops.gu rfl rfl rfl (Dtu.mv (lk rfl)) rfl ?_
    refine Ops.gu rfl rfl rfl (Dtu.lenS Try.underlying32 (Sl.osl 1 rfl) (lk rfl)) rfl ?_
    refine Ops.gu rfl rfl rfl (Dtu.mv (lk rfl)) rfl ?_
    refine Ops.gu rfl rfl rfl (Dtu.lenS Try.underlying32 (Sl.osl 0 rfl) (lk rfl)) rfl ?_
    refine Ops.gu rfl rfl rfl (Dtu.add (lk rfl) (lk rfl) (w64 (by omega) (by omega))) rfl ?_
    refine Ops.gu rfl rfl rfl (Dtu.lss (lk rfl) (lk rfl)) rfl ?_
    refine Ops.u (Dtu.pickF (lk rfl) (lk rfl)) rfl ?_
    refine Ops.u (Dtu.mv (lk rfl)) rfl ?_
    refine Ops.decP 40 rfl (fun hy => absurd hy (by first | omega | assumption | decide)) (fun _ => ?_)
    refine Ops.gu rfl rfl rfl (Dtu.mv (lk rfl)) rfl ?_
    refine Ops.gu rfl rfl rfl (Dtu.lenS Try.underlying32 (Sl.osl 1 rfl) (lk rfl)) rfl ?_
    refine Ops.gu rfl rfl rfl (Dtu.fld fa24_2 (lk rfl)) rfl ?_
    refine Ops.gd rfl rfl rfl (Det.ld Try.isAgg22 (lk rfl) (Rd.ow 2 rfl rfl)) rfl ?_
    refine Ops.gu rfl rfl rfl (Dtu.lenS Try.underlying22 (Sl.up h) (lk rfl)) rfl ?_
    refine Ops.gu rfl rfl rfl (Dtu.mul (lk rfl) (lk rfl) (w64 (by omega) (by omega))) rfl ?_
    refine Ops.gu rfl rfl rfl (Dtu.add (lk rfl) (lk rfl) (w64 (by omega) (by omega))) rfl ?_
    refine Ops.gu rfl rfl rfl (Dtu.gtr (lk rfl) (lk rfl)) rfl ?_
    refine Ops.u (Dtu.pickF (lk rfl) (lk rfl)) rfl ?_
    refine Ops.nil ?_
    refine Then.next ?_
    refine Body.condP (lk rfl) (fun hy => absurd hy (by first | omega | assumption | decide)) (fun _ => ?_)
    refine Body.skip ?_
    refine Then.next ?_
    refine Body.seq ?_
    refine Body.region ?_
    refine Ops.u (Dtu.asg (lk rfl)) rfl ?_
    refine Ops.nil ?_
    refine Then.next ?_
    refine Body.seq ?_
    refine Body.seq ?_
    refine Body.region ?_
    refine Ops.u (Dtu.asg (lk rfl)) rfl ?_
    refine Ops.nil ?_
    refine Then.next ?_
    refine Body.block ?_
    refine Body.loopF (γ := Nat) rfl (fun i => [(8, .int .i64 i), (7, .bool ((cells.take i).all (fun d => decide (d = cells[0]!))))]) (fun _ => [osl 5 1 s23 cells[0]!.size (cells[0]!.bytes.map (.int .u8)), osl 5 1 s15 (View.bytes ⟨vr, vc, cells, vo, vl, vv⟩).length ((View.bytes ⟨vr, vc, cells, vo, vl, vv⟩).map (.int .u8)), own b1 [.int .i64 vr, .int .i64 vc, .slice sa sm sc, .int .i64 vo, .int .i64 vl, .bool vv] 24]) (fun i => i ≤ cells.length) (fun i => cells.length - i) 0 (by simp) ⟨rfl, rfl, trivial⟩ rfl ?_
    intro i u hi
    refine Body.seq ?_
    refine Body.seq ?_
    refine Body.region ?_
    refine Ops.u (Dtu.mv (lk rfl)) rfl ?_
    refine Ops.u (Dtu.fld fa24_2 (lk rfl)) rfl ?_
    refine Ops.d (Det.ld Try.isAgg22 (lk rfl) (Rd.ow 2 rfl rfl)) rfl ?_
    refine Ops.u (Dtu.lenS Try.underlying22 (Sl.up h) (lk rfl)) rfl ?_
    refine Ops.u (Dtu.lss (lk rfl) (lk rfl)) rfl ?_
    refine Ops.nil ?_
    refine Then.next ?_
    refine Body.condP (lk rfl) (fun c54 => ?_) (fun c54 => ?_)
    · refine Body.skip ?_
      refine Then.next ?_
      refine Body.seq ?_
      refine Body.block ?_
      refine Body.draw mixed ?_
      refine AB.u 0 rfl (by decide +kernel) (Dtu.mv (lk rfl)) rfl ?_
      refine AB.u 1 rfl (by decide +kernel) (Dtu.mv (lk rfl)) rfl ?_
      refine AB.dec 58 rfl (fun c58 => ?_) (fun c58 => ?_)
      · refine AB.gu 2 rfl (by decide +kernel) rfl rfl rfl (Dtu.fld fa24_2 (lk rfl)) rfl ?_
        refine AB.gd 3 rfl (by decide +kernel) rfl rfl rfl rfl (Det.ld Try.isAgg22 (lk rfl) (Rd.ow 2 rfl rfl)) rfl ?_
        refine AB.gu 4 rfl (by decide +kernel) rfl rfl rfl (Dtu.mv (lk rfl)) rfl ?_
        refine AB.gu 5 rfl (by decide +kernel) rfl rfl rfl (Dtu.ix (i := (i)) Try.underlying22 Try.sizeOf55 (Sl.up h) (lk rfl) (lk rfl) (by omega) (by omega)) rfl ?_
        refine AB.gd 6 rfl (by decide +kernel) rfl rfl rfl rfl (Det.lda Try.isAgg55 Try.sizeOf55 (lk rfl) (Rds.sl (Sl.up h) (gf (sz := 4) (fun _ => rfl) (by omega))) rfl) rfl ?_
        refine AB.gu 7 rfl (by decide +kernel) rfl rfl rfl (Dtu.fld fa24_2 (lk rfl)) rfl ?_
        refine AB.gd 8 rfl (by decide +kernel) rfl rfl rfl rfl (Det.ld Try.isAgg22 (lk rfl) (Rd.ow 2 rfl rfl)) rfl ?_
        refine AB.gu 9 rfl (by decide +kernel) rfl rfl rfl (Dtu.ix (i := 0) Try.underlying22 Try.sizeOf55 (Sl.up h) (lk rfl) (lk rfl) (by omega) (by omega)) rfl ?_
        refine AB.gd 10 rfl (by decide +kernel) rfl rfl rfl rfl (Det.lda Try.isAgg55 Try.sizeOf55 (lk rfl) (Rds.sl (Sl.up h) (gf (sz := 4) (fun _ => rfl) (by omega))) rfl) rfl ?_
        refine AB.gu 11 rfl (by decide +kernel) rfl rfl rfl (Dtu.eqS eqGuard55 (eq55 _ _) (lk rfl) (lk rfl)) rfl ?_
        refine AB.u 12 rfl (by decide +kernel) (Dtu.pickT (lk rfl) (lk rfl)) rfl ?_
        refine AB.u 13 rfl (by decide +kernel) (Dtu.asg (lk rfl)) rfl ?_
        refine AB.done (by decide +kernel) ?_
        refine Blk.norm ?_
        refine Then.next ?_
        refine Body.region ?_
        refine Ops.u (Dtu.mv (lk rfl)) rfl ?_
        refine Ops.u (Dtu.add (lk rfl) (lk rfl) (w64 (by omega) (by omega))) rfl ?_
        refine Ops.u (Dtu.asg (lk rfl)) rfl ?_
        refine Ops.nil ?_
        exact Round.goF (i + 1) rfl rfl rfl ⟨int_eq (by omega), by rw [take_all (by omega), c58]; rfl, trivial⟩ rfl (by omega) (by omega)
      · refine AB.gn 2 rfl (by decide +kernel) rfl rfl rfl rfl rfl ?_
        refine AB.gn 3 rfl (by decide +kernel) rfl rfl rfl rfl rfl ?_
        refine AB.gn 4 rfl (by decide +kernel) rfl rfl rfl rfl rfl ?_
        refine AB.gn 5 rfl (by decide +kernel) rfl rfl rfl rfl rfl ?_
        refine AB.gn 6 rfl (by decide +kernel) rfl rfl rfl rfl rfl ?_
        refine AB.gn 7 rfl (by decide +kernel) rfl rfl rfl rfl rfl ?_
        refine AB.gn 8 rfl (by decide +kernel) rfl rfl rfl rfl rfl ?_
        refine AB.gn 9 rfl (by decide +kernel) rfl rfl rfl rfl rfl ?_
        refine AB.gn 10 rfl (by decide +kernel) rfl rfl rfl rfl rfl ?_
        refine AB.gn 11 rfl (by decide +kernel) rfl rfl rfl rfl rfl ?_
        refine AB.u 12 rfl (by decide +kernel) (Dtu.pickF (lk rfl) (lk rfl)) rfl ?_
        refine AB.u 13 rfl (by decide +kernel) (Dtu.asg (lk rfl)) rfl ?_
        refine AB.done (by decide +kernel) ?_
        refine Blk.norm ?_
        refine Then.next ?_
        refine Body.region ?_
        refine Ops.u (Dtu.mv (lk rfl)) rfl ?_
        refine Ops.u (Dtu.add (lk rfl) (lk rfl) (w64 (by omega) (by omega))) rfl ?_
        refine Ops.u (Dtu.asg (lk rfl)) rfl ?_
        refine Ops.nil ?_
        exact Round.goF (i + 1) rfl rfl rfl ⟨int_eq (by omega), by rw [take_all (by omega), c58]; rfl, trivial⟩ rfl (by omega) (by omega)
    · refine Body.exit ?_
      refine Then.exit ?_
      refine Round.exit ?_
      refine Blk.here ?_
      refine Then.next ?_
      refine Body.seq ?_
      refine Body.region ?_
      refine Ops.s (Stp.call rfl Try.call27 (lks rfl) (fun E' le hat => alive20_ok E') ?_) rfl
      rintro _ _ ⟨rfl, rfl⟩
      refine Ops.u (Dtu.mv (lk rfl)) rfl ?_
      refine Ops.gu rfl rfl rfl (Dtu.mv (lk rfl)) rfl ?_
      refine Ops.gu rfl rfl rfl (Dtu.not (lk rfl)) rfl ?_
      refine Ops.gu rfl rfl rfl (Dtu.mv (lk rfl)) rfl ?_
      refine Ops.dec 74 rfl (fun c74 => ?_) (fun c74 => ?_)
      · refine Ops.gn rfl rfl rfl rfl rfl ?_
        refine Ops.gn rfl rfl rfl rfl rfl ?_
        refine Ops.gn rfl rfl rfl rfl rfl ?_
        refine Ops.gn rfl rfl rfl rfl rfl ?_
        refine Ops.gn rfl rfl rfl rfl rfl ?_
        refine Ops.gn rfl rfl rfl rfl rfl ?_
        refine Ops.gu rfl rfl rfl (Dtu.pickT (lk rfl) (lk rfl)) rfl ?_
        refine Ops.u (Dtu.pickT (lk rfl) (lk rfl)) rfl ?_
        refine Ops.u (Dtu.asg (lk rfl)) rfl ?_
        refine Ops.nil ?_
        refine Then.next ?_
        refine Body.ret ?_
        exact ⟨.inr rfl, _, pk [] rfl, rfl, rfl⟩
      · have z7 := z6 (fun d hd => by
          rw [List.take_of_length_le (by omega)] at c74
          have c75 : (cells.all fun d => decide (d = cells[0]!)) = true := by simpa using c74
          simpa using List.all_eq_true.1 c75 d hd)
        refine Ops.gu rfl rfl rfl (Dtu.mv (lk rfl)) rfl ?_
        refine Ops.gu rfl rfl rfl (Dtu.lenS Try.underlying32 (Sl.osl 1 rfl) (lk rfl)) rfl ?_
        refine Ops.gu rfl rfl rfl (Dtu.mv (lk rfl)) rfl ?_
        refine Ops.gu rfl rfl rfl (Dtu.lenS Try.underlying32 (Sl.osl 0 rfl) (lk rfl)) rfl ?_
        refine Ops.gu rfl rfl rfl (Dtu.add (lk rfl) (lk rfl) (w64 (by omega) (by omega))) rfl ?_
        refine Ops.gu rfl rfl rfl (Dtu.leq (lk rfl) (lk rfl)) rfl ?_
        refine Ops.gu rfl rfl rfl (Dtu.pickF (lk rfl) (lk rfl)) rfl ?_
        refine Ops.u (Dtu.pickT (lk rfl) (lk rfl)) rfl ?_
        refine Ops.u (Dtu.asg (lk rfl)) rfl ?_
        refine Ops.nil ?_
        refine Then.next ?_
        refine Body.ret ?_
        exact ⟨.inr rfl, _, pk [] rfl, bool_eq (by rw [decide_eq_true_iff]; constructor <;> intro _ <;> first | rfl | omega), rfl⟩
end Go.Proofs.Ytijjjdljdjnbaaa
