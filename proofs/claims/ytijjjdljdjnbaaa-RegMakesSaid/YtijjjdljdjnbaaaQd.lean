/- Qd: Sizes, Close, OpenV, OpenW, Back, BackB, WR, BackW, OpenB. -/
import Derived.WalkKit
import Derived.ProofKit
import Derived.OpenShut
import Derived.Carry
import Derived.Deep.Slices
import Derived.Test.YtijjjdljdjnbaaaQa
import Derived.Test.YtijjjdljdjnbaaaQb
import Derived.Test.YtijjjdljdjnbaaaQc
section
/- ViewSizes. -/
namespace Go.Proofs.Ytijjjdljdjnbaaa
set_option maxRecDepth 100000
set_option linter.unusedVariables false
set_option linter.unusedSimpArgs false
open Go.Sx

theorem sizeS_4 {v : Int} (h : v < 1073741824) : sizeS v ≤ 4 := by
  unfold sizeS classS; (repeat' split) <;> simp_all <;> omega
theorem sizeS_2 {v : Int} (h : v < 16384) : sizeS v ≤ 2 := by
  unfold sizeS classS; (repeat' split) <;> simp_all <;> omega
theorem Cell.size_13 {c : Cell} (h : c.ok = true) : c.size ≤ 13 := by
  have hk : isPt c.pt = true ∧ isCol c.fg = true ∧ isCol c.bg = true := by simpa [Cell.ok, okCell, okSty] using h
  have b1 := isPt_bound hk.1
  have b2 := isCol_bound hk.2.1
  have b3 := isCol_bound hk.2.2
  have := sizeS_4 (v := c.pt) (by omega)
  have := sizeS_4 (v := c.fg) (by omega)
  have := sizeS_4 (v := c.bg) (by omega)
  unfold Cell.size Cell.styleN; omega
theorem runsFrom_low : ∀ (t : List Cell) (c : Cell) (n : Nat), n + t.length < 4611686018427387904 → c.size + 1 ≤ (runsFrom c n t).length
  | [], c, n, h => by
    have := sizeS_pos (v := (n : Int)) (by simp at h; omega)
    simp [runsFrom, putL_len, Cell.bytes_len]; omega
  | d :: t, c, n, h => by
    have := sizeS_pos (v := (n : Int)) (by simp at h; omega)
    simp only [List.length_cons] at h
    simp only [runsFrom]
    split
    · exact runsFrom_low t c (n + 1) (by omega)
    · simp only [List.length_append, putL_len, Cell.bytes_len]; omega
theorem runsFrom_high : ∀ (t : List Cell) (c : Cell) (n : Nat), 1 ≤ n → n + t.length ≤ 480 → c.ok = true → (∀ d ∈ t, d.ok = true) → (runsFrom c n t).length ≤ 15 * (n + t.length)
  | [], c, n, h1, h, hc, _ => by
    have := sizeS_2 (v := (n : Int)) (by simp at h; omega)
    have := Cell.size_13 hc
    simp [runsFrom, putL_len, Cell.bytes_len]; omega
  | d :: t, c, n, h1, h, hc, ht => by
    have h2 := sizeS_2 (v := (n : Int)) (by omega)
    have h3 := Cell.size_13 hc
    simp only [List.length_cons] at h ⊢
    simp only [runsFrom]
    split
    · have := runsFrom_high t c (n + 1) (by omega) (by omega) hc (fun e he => ht e (by simp [he])); omega
    · have := runsFrom_high t d 1 (by omega) (by omega) (ht d (by simp)) (fun e he => ht e (by simp [he]))
      simp only [List.length_append, putL_len, Cell.bytes_len]; omega
theorem runsFrom_one : ∀ (t : List Cell) (c : Cell) (n : Nat), (∀ d ∈ t, d = c) → runsFrom c n t = putL ((n + t.length : Nat) : Int) ++ c.bytes
  | [], c, n, _ => by simp [runsFrom]
  | d :: t, c, n, h => by
    have hd := h d (by simp)
    simp only [runsFrom, hd, if_true]
    rw [runsFrom_one t c (n + 1) (fun e he => h e (by simp [he]))]
    simp only [List.length_cons]
    rw [show n + 1 + t.length = n + (t.length + 1) by omega]
theorem View.sizes {v : View} (h : v.ok = true) : 0 < v.cells.length ∧ v.cells.length ≤ 480 ∧ v.cells[0]!.ok = true ∧ 6 + v.cells[0]!.size ≤ v.bytes.length ∧ v.bytes.length ≤ 5 + 15 * v.cells.length ∧ ((∀ d ∈ v.cells, d = v.cells[0]!) → v.bytes.length ≤ 7 + v.cells[0]!.size) := by
  obtain ⟨⟨hrc, f1, f2, f3, f4, f5⟩, hc⟩ := View.ok_fits h
  have hm := mul_bound hrc
  have hl : v.bytes.length = 5 + (runsB v.cells).length := by simp [View.bytes, View.head]; omega
  have h1 : 0 < v.cells.length := by omega
  have h2 : v.cells.length ≤ 480 := by omega
  rw [hl]
  generalize v.cells = xs at *
  cases xs with
  | nil => simp at h1
  | cons c t =>
    simp only [List.length_cons] at h2 ⊢
    have a0 := hc c (by simp)
    have a1 := runsFrom_low t c 1 (by omega)
    have a2 := runsFrom_high t c 1 (by omega) (by omega) a0 (fun d hd => hc d (by simp [hd]))
    refine ⟨by omega, by omega, a0, ?_, ?_, fun hall => ?_⟩
    · simp only [runsB, List.getElem!_cons_zero]; omega
    · simp only [runsB]; omega
    · have := runsFrom_one t c 1 (fun d hd => hall d (by simp [hd]))
      have h3 := sizeS_2 (v := ((1 + t.length : Nat) : Int)) (by omega)
      simp only [runsB, List.getElem!_cons_zero, this, List.length_append, putL_len, Cell.bytes_len]; omega
theorem take_all {α : Type} [Inhabited α] {p : α → Bool} {l : List α} {i : Nat} (h : i < l.length) : (l.take (i + 1)).all p = ((l.take i).all p && p l[i]!) := by
  rw [List.take_succ_eq_append_getElem h, List.all_append, getElem!_pos l i h]; simp
theorem sizes_ok (E : Env) (v : View) (s : Value) (h : v.has E [] s) : Does Try.prog 10 #[v.val s] E [] fun r H' => r = .bool true ∧ H' = [] := by
  obtain ⟨vr, vc, cells, vo, vl, vv⟩ := v
  unfold View.has at h
  refine Does.pure h.len fun hlen => ?_
  refine Does.pure h.isSl fun hsl => ?_
  obtain ⟨sa, sm, sc, rfl⟩ := hsl
  refine Does.go (args := [View.val ⟨vr, vc, cells, vo, vl, vv⟩ _]) _ _ Try.func10 rfl Try.ntmps10 rfl rfl ?_
  cases hk : View.ok ⟨vr, vc, cells, vo, vl, vv⟩ with
  | false =>
    refine Body.seq ?_
    refine Body.region ?_
    refine Ops.s (Stp.box (lk rfl) rfl (fun b1 => ?_)) rfl
    refine Ops.u (Dtu.asg (lk rfl)) rfl ?_
    refine Ops.nil ?_
    refine Then.next ?_
    refine Body.seq ?_
    refine Body.seq ?_
    refine Body.region ?_
    refine Ops.d (Det.lda Try.isAgg24 Try.sizeOf24 (lk rfl) (Rds.ow (m := 6) 0 rfl rfl) rfl) rfl ?_
    refine Ops.s (Stp.call rfl Try.call25 (lks rfl) (fun E' le hat => right_ok E' ⟨_, _, _, _, _, _⟩ _ (Sl.mono (by assumption) le)) ?_) rfl
    rintro _ _ ⟨rfl, rfl⟩
    refine Ops.u (Dtu.not (lk rfl)) rfl ?_
    refine Ops.nil ?_
    refine Then.next ?_
    refine Body.cond (lk rfl) (fun _ => ?_) (fun hn => absurd hn (by simp [hk]))
    refine Body.seq ?_
    refine Body.region ?_
    refine Ops.s (Stp.call rfl Try.call27 (lks rfl) (fun E' le hat => alive20_ok E') ?_) rfl
    rintro _ _ ⟨rfl, rfl⟩
    refine Ops.u (Dtu.asg (lk rfl)) rfl ?_
    refine Ops.nil ?_
    refine Then.next ?_
    refine Body.ret ?_
    refine Then.ret ?_
    exact ⟨.inr rfl, _, pk [] rfl, rfl, rfl⟩
  | true =>
    obtain ⟨z1, z2, z3, z4, z5, z6⟩ := View.sizes hk
    dsimp only at h hlen z1 z2 z3 z4 z5 z6
    refine Body.seq ?_
    refine Body.region ?_
    refine Ops.s (Stp.box (lk rfl) rfl (fun b1 => ?_)) rfl
    refine Ops.u (Dtu.asg (lk rfl)) rfl ?_
    refine Ops.nil ?_
    refine Then.next ?_
    refine Body.seq ?_
    refine Body.seq ?_
    refine Body.region ?_
    refine Ops.d (Det.lda Try.isAgg24 Try.sizeOf24 (lk rfl) (Rds.ow (m := 6) 0 rfl rfl) rfl) rfl ?_
    refine Ops.s (Stp.call rfl Try.call25 (lks rfl) (fun E' le hat => right_ok E' ⟨_, _, _, _, _, _⟩ _ (Sl.mono (by assumption) le)) ?_) rfl
    rintro _ _ ⟨rfl, rfl⟩
    refine Ops.u (Dtu.not (lk rfl)) rfl ?_
    refine Ops.nil ?_
    refine Then.next ?_
    refine Body.cond (lk rfl) (fun hn => absurd hn (by simp [hk])) (fun _ => ?_)
    refine Body.skip ?_
    refine Then.next ?_
    refine Body.seq ?_
    refine Body.region ?_
    refine Ops.d (Det.lda Try.isAgg24 Try.sizeOf24 (lk rfl) (Rds.ow (m := 6) 0 rfl rfl) rfl) rfl ?_
    refine Ops.s (Stp.call rfl Try.call28 (lks rfl) (fun E' le hat => write_ok E' ⟨_, _, _, _, _, _⟩ _ (Sl.mono (by assumption) le) (by assumption)) ?_) rfl
    rintro _ _ ⟨s15, rfl, rfl⟩
    refine Ops.u (Dtu.mv (lk rfl)) rfl ?_
    refine Ops.u (Dtu.ext (lk rfl) rfl) rfl ?_
    refine Ops.u (Dtu.ext (lk rfl) rfl) rfl ?_
    refine Ops.u (Dtu.asg (lk rfl)) rfl ?_
    refine Ops.u (Dtu.asg (lk rfl)) rfl ?_
    refine Ops.nil ?_
    refine Then.next ?_
    refine Body.seq ?_
    refine Body.region ?_
    refine Ops.u (Dtu.fld fa24_2 (lk rfl)) rfl ?_
    refine Ops.d (Det.ld Try.isAgg22 (lk rfl) (Rd.ow 1 rfl rfl)) rfl ?_
    refine Ops.u (Dtu.ix (i := 0) Try.underlying22 Try.sizeOf55 (Sl.up h) (lk rfl) (lk rfl) (by omega) (by omega)) rfl ?_
    refine Ops.d (Det.lda Try.isAgg55 Try.sizeOf55 (lk rfl) (Rds.sl (Sl.up h) (gf (sz := 4) (fun _ => rfl) (by omega))) rfl) rfl ?_
    refine Ops.s (Stp.call rfl Try.call33 (lks rfl) (fun E' le hat => putCell_ok E' _ (by assumption)) ?_) rfl
    rintro _ _ ⟨s23, hz23, rfl, rfl⟩
    refine Ops.u (Dtu.mv (lk rfl)) rfl ?_
    refine Ops.u (Dtu.ext (lk rfl) rfl) rfl ?_
    refine Ops.u (Dtu.ext (lk rfl) rfl) rfl ?_
    refine Ops.u (Dtu.asg (lk rfl)) rfl ?_
    refine Ops.u (Dtu.asg (lk rfl)) rfl ?_
    refine Ops.nil ?_
    refine Then.next ?_
    refine Body.seq ?_
    refine Body.seq ?_
    refine Body.region ?_
    refine Ops.u (Dtu.mv (lk rfl)) rfl ?_
    refine Ops.u (Dtu.neq (lk rfl) (lk rfl)) rfl ?_
    refine Ops.u (Dtu.mv (lk rfl)) rfl ?_
    refine Ops.decP 28 rfl (fun hy => absurd hy (by first | omega | assumption | decide)) (fun _ => ?_)
    refine Ops.gu rfl rfl rfl (Dtu.mv (lk rfl)) rfl ?_
    refine Ops.gu rfl rfl rfl (Dtu.neq (lk rfl) (lk rfl)) rfl ?_
    refine Ops.u (Dtu.pickF (lk rfl) (lk rfl)) rfl ?_
    refine Ops.u (Dtu.mv (lk rfl)) rfl ?_
    refine Ops.decP 32 rfl (fun hy => absurd hy (by first | omega | assumption | decide)) (fun _ => ?_)
    refine Ops.gu rfl rfl rfl (Dtu.mv (lk rfl)) rfl ?_
    refine Ops.gu rfl rfl rfl (Dtu.lenS Try.underlying32 (Sl.osl 1 rfl) (lk rfl)) rfl ?_
    refine Ops.gu rfl rfl rfl (Dtu.mv (lk rfl)) rfl ?_
    refine Ops.gu rfl rfl rfl (Dtu.lenS Try.underlying32 (Sl.osl 0 rfl) (lk rfl)) rfl ?_
    refine Ops.gu rfl rfl rfl (Dtu.add (lk rfl) (lk rfl) (w64 (by omega) (by omega))) rfl ?_
    refine Ops.gu rfl rfl rfl (Dtu.lss (lk rfl) (lk rfl)) rfl ?_
    refine Ops.u (Dtu.pickF (lk rfl) (lk rfl)) rfl ?_
    refine Ops.u (Dtu.mv (lk rfl)) rfl ?_
    refine Ops.decP 40 rfl (fun hy => absurd hy (by first | omega | assumption | decide)) (fun _ => ?_)
    refine Ops.gu rfl rfl rfl (Dtu.mv (lk rfl)) rfl ?_
    refine Ops.gu rfl rfl rfl (Dtu.lenS Try.underlying32 (Sl.osl 1 rfl) (lk rfl)) rfl ?_
    refine Ops.gu rfl rfl rfl (Dtu.fld fa24_2 (lk rfl)) rfl ?_
    refine Ops.gd rfl rfl rfl (Det.ld Try.isAgg22 (lk rfl) (Rd.ow 2 rfl rfl)) rfl ?_
    refine Ops.gu rfl rfl rfl (Dtu.lenS Try.underlying22 (Sl.up h) (lk rfl)) rfl ?_
    refine Ops.gu rfl rfl rfl (Dtu.mul (lk rfl) (lk rfl) (w64 (by omega) (by omega))) rfl ?_
    refine Ops.gu rfl rfl rfl (Dtu.add (lk rfl) (lk rfl) (w64 (by omega) (by omega))) rfl ?_
    refine Ops.gu rfl rfl rfl (Dtu.gtr (lk rfl) (lk rfl)) rfl ?_
    refine Ops.u (Dtu.pickF (lk rfl) (lk rfl)) rfl ?_
    refine Ops.nil ?_
    refine Then.next ?_
    refine Body.condP (lk rfl) (fun hy => absurd hy (by first | omega | assumption | decide)) (fun _ => ?_)
    refine Body.skip ?_
    refine Then.next ?_
    refine Body.seq ?_
    refine Body.region ?_
    refine Ops.u (Dtu.asg (lk rfl)) rfl ?_
    refine Ops.nil ?_
    refine Then.next ?_
    refine Body.seq ?_
    refine Body.seq ?_
    refine Body.region ?_
    refine Ops.u (Dtu.asg (lk rfl)) rfl ?_
    refine Ops.nil ?_
    refine Then.next ?_
    refine Body.block ?_
    refine Body.loopF (γ := Nat) rfl (fun i => [(8, .int .i64 i), (7, .bool ((cells.take i).all (fun d => decide (d = cells[0]!))))]) (fun _ => [osl 5 1 s23 cells[0]!.size (cells[0]!.bytes.map (.int .u8)), osl 5 1 s15 (View.bytes ⟨vr, vc, cells, vo, vl, vv⟩).length ((View.bytes ⟨vr, vc, cells, vo, vl, vv⟩).map (.int .u8)), own b1 [.int .i64 vr, .int .i64 vc, .slice sa sm sc, .int .i64 vo, .int .i64 vl, .bool vv] 24]) (fun i => i ≤ cells.length) (fun i => cells.length - i) 0 (by simp) ⟨rfl, rfl, trivial⟩ rfl ?_
    intro i u hi
    refine Body.seq ?_
    refine Body.seq ?_
    refine Body.region ?_
    refine Ops.u (Dtu.mv (lk rfl)) rfl ?_
    refine Ops.u (Dtu.fld fa24_2 (lk rfl)) rfl ?_
    refine Ops.d (Det.ld Try.isAgg22 (lk rfl) (Rd.ow 2 rfl rfl)) rfl ?_
    refine Ops.u (Dtu.lenS Try.underlying22 (Sl.up h) (lk rfl)) rfl ?_
    refine Ops.u (Dtu.lss (lk rfl) (lk rfl)) rfl ?_
    refine Ops.nil ?_
    refine Then.next ?_
    refine Body.condP (lk rfl) (fun c54 => ?_) (fun c54 => ?_)
    · refine Body.skip ?_
      refine Then.next ?_
      refine Body.seq ?_
      refine Body.block ?_
      refine Body.draw mixed ?_
      refine AB.u 0 rfl (by decide +kernel) (Dtu.mv (lk rfl)) rfl ?_
      refine AB.u 1 rfl (by decide +kernel) (Dtu.mv (lk rfl)) rfl ?_
      refine AB.dec 58 rfl (fun c58 => ?_) (fun c58 => ?_)
      · refine AB.gu 2 rfl (by decide +kernel) rfl rfl rfl (Dtu.fld fa24_2 (lk rfl)) rfl ?_
        refine AB.gd 3 rfl (by decide +kernel) rfl rfl rfl rfl (Det.ld Try.isAgg22 (lk rfl) (Rd.ow 2 rfl rfl)) rfl ?_
        refine AB.gu 4 rfl (by decide +kernel) rfl rfl rfl (Dtu.mv (lk rfl)) rfl ?_
        refine AB.gu 5 rfl (by decide +kernel) rfl rfl rfl (Dtu.ix (i := (i)) Try.underlying22 Try.sizeOf55 (Sl.up h) (lk rfl) (lk rfl) (by omega) (by omega)) rfl ?_
        refine AB.gd 6 rfl (by decide +kernel) rfl rfl rfl rfl (Det.lda Try.isAgg55 Try.sizeOf55 (lk rfl) (Rds.sl (Sl.up h) (gf (sz := 4) (fun _ => rfl) (by omega))) rfl) rfl ?_
        refine AB.gu 7 rfl (by decide +kernel) rfl rfl rfl (Dtu.fld fa24_2 (lk rfl)) rfl ?_
        refine AB.gd 8 rfl (by decide +kernel) rfl rfl rfl rfl (Det.ld Try.isAgg22 (lk rfl) (Rd.ow 2 rfl rfl)) rfl ?_
        refine AB.gu 9 rfl (by decide +kernel) rfl rfl rfl (Dtu.ix (i := 0) Try.underlying22 Try.sizeOf55 (Sl.up h) (lk rfl) (lk rfl) (by omega) (by omega)) rfl ?_
        refine AB.gd 10 rfl (by decide +kernel) rfl rfl rfl rfl (Det.lda Try.isAgg55 Try.sizeOf55 (lk rfl) (Rds.sl (Sl.up h) (gf (sz := 4) (fun _ => rfl) (by omega))) rfl) rfl ?_
        refine AB.gu 11 rfl (by decide +kernel) rfl rfl rfl (Dtu.eqS eqGuard55 (eq55 _ _) (lk rfl) (lk rfl)) rfl ?_
        refine AB.u 12 rfl (by decide +kernel) (Dtu.pickT (lk rfl) (lk rfl)) rfl ?_
        refine AB.u 13 rfl (by decide +kernel) (Dtu.asg (lk rfl)) rfl ?_
        refine AB.done (by decide +kernel) ?_
        refine Blk.norm ?_
        refine Then.next ?_
        refine Body.region ?_
        refine Ops.u (Dtu.mv (lk rfl)) rfl ?_
        refine Ops.u (Dtu.add (lk rfl) (lk rfl) (w64 (by omega) (by omega))) rfl ?_
        refine Ops.u (Dtu.asg (lk rfl)) rfl ?_
        refine Ops.nil ?_
        exact Round.goF (i + 1) rfl rfl rfl ⟨int_eq (by omega), by rw [take_all (by omega), c58]; rfl, trivial⟩ rfl (by omega) (by omega)
      · refine AB.gn 2 rfl (by decide +kernel) rfl rfl rfl rfl rfl ?_
        refine AB.gn 3 rfl (by decide +kernel) rfl rfl rfl rfl rfl ?_
        refine AB.gn 4 rfl (by decide +kernel) rfl rfl rfl rfl rfl ?_
        refine AB.gn 5 rfl (by decide +kernel) rfl rfl rfl rfl rfl ?_
        refine AB.gn 6 rfl (by decide +kernel) rfl rfl rfl rfl rfl ?_
        refine AB.gn 7 rfl (by decide +kernel) rfl rfl rfl rfl rfl ?_
        refine AB.gn 8 rfl (by decide +kernel) rfl rfl rfl rfl rfl ?_
        refine AB.gn 9 rfl (by decide +kernel) rfl rfl rfl rfl rfl ?_
        refine AB.gn 10 rfl (by decide +kernel) rfl rfl rfl rfl rfl ?_
        refine AB.gn 11 rfl (by decide +kernel) rfl rfl rfl rfl rfl ?_
        refine AB.u 12 rfl (by decide +kernel) (Dtu.pickF (lk rfl) (lk rfl)) rfl ?_
        refine AB.u 13 rfl (by decide +kernel) (Dtu.asg (lk rfl)) rfl ?_
        refine AB.done (by decide +kernel) ?_
        refine Blk.norm ?_
        refine Then.next ?_
        refine Body.region ?_
        refine Ops.u (Dtu.mv (lk rfl)) rfl ?_
        refine Ops.u (Dtu.add (lk rfl) (lk rfl) (w64 (by omega) (by omega))) rfl ?_
        refine Ops.u (Dtu.asg (lk rfl)) rfl ?_
        refine Ops.nil ?_
        exact Round.goF (i + 1) rfl rfl rfl ⟨int_eq (by omega), by rw [take_all (by omega), c58]; rfl, trivial⟩ rfl (by omega) (by omega)
    · refine Body.exit ?_
      refine Then.exit ?_
      refine Round.exit ?_
      refine Blk.here ?_
      refine Then.next ?_
      refine Body.seq ?_
      refine Body.region ?_
      refine Ops.s (Stp.call rfl Try.call27 (lks rfl) (fun E' le hat => alive20_ok E') ?_) rfl
      rintro _ _ ⟨rfl, rfl⟩
      refine Ops.u (Dtu.mv (lk rfl)) rfl ?_
      refine Ops.gu rfl rfl rfl (Dtu.mv (lk rfl)) rfl ?_
      refine Ops.gu rfl rfl rfl (Dtu.not (lk rfl)) rfl ?_
      refine Ops.gu rfl rfl rfl (Dtu.mv (lk rfl)) rfl ?_
      refine Ops.dec 74 rfl (fun c74 => ?_) (fun c74 => ?_)
      · refine Ops.gn rfl rfl rfl rfl rfl ?_
        refine Ops.gn rfl rfl rfl rfl rfl ?_
        refine Ops.gn rfl rfl rfl rfl rfl ?_
        refine Ops.gn rfl rfl rfl rfl rfl ?_
        refine Ops.gn rfl rfl rfl rfl rfl ?_
        refine Ops.gn rfl rfl rfl rfl rfl ?_
        refine Ops.gu rfl rfl rfl (Dtu.pickT (lk rfl) (lk rfl)) rfl ?_
        refine Ops.u (Dtu.pickT (lk rfl) (lk rfl)) rfl ?_
        refine Ops.u (Dtu.asg (lk rfl)) rfl ?_
        refine Ops.nil ?_
        refine Then.next ?_
        refine Body.ret ?_
        exact ⟨.inr rfl, _, pk [] rfl, rfl, rfl⟩
      · have z7 := z6 (fun d hd => by
          rw [List.take_of_length_le (by omega)] at c74
          have c75 : (cells.all fun d => decide (d = cells[0]!)) = true := by simpa using c74
          simpa using List.all_eq_true.1 c75 d hd)
        refine Ops.gu rfl rfl rfl (Dtu.mv (lk rfl)) rfl ?_
        refine Ops.gu rfl rfl rfl (Dtu.lenS Try.underlying32 (Sl.osl 1 rfl) (lk rfl)) rfl ?_
        refine Ops.gu rfl rfl rfl (Dtu.mv (lk rfl)) rfl ?_
        refine Ops.gu rfl rfl rfl (Dtu.lenS Try.underlying32 (Sl.osl 0 rfl) (lk rfl)) rfl ?_
        refine Ops.gu rfl rfl rfl (Dtu.add (lk rfl) (lk rfl) (w64 (by omega) (by omega))) rfl ?_
        refine Ops.gu rfl rfl rfl (Dtu.leq (lk rfl) (lk rfl)) rfl ?_
        refine Ops.gu rfl rfl rfl (Dtu.pickF (lk rfl) (lk rfl)) rfl ?_
        refine Ops.u (Dtu.pickT (lk rfl) (lk rfl)) rfl ?_
        refine Ops.u (Dtu.asg (lk rfl)) rfl ?_
        refine Ops.nil ?_
        refine Then.next ?_
        refine Body.ret ?_
        exact ⟨.inr rfl, _, pk [] rfl, bool_eq (by rw [decide_eq_true_iff]; constructor <;> intro _ <;> first | rfl | omega), rfl⟩
end Go.Proofs.Ytijjjdljdjnbaaa
end
section
/- From a contract to the statement's conclusion: a call that writes nothing of what was there, and returns true. -/
namespace Go.Proofs.Ytijjjdljdjnbaaa
set_option linter.unusedVariables false
open Go.Sx Go.ChangeShapes Go.RowKit Go.WideShapes Go.ChangeAt

theorem below_of_St {W W' : World} {H : List HProp} (s : St (envOf W) H W') : Below W.heap.size W W' where
  os := s.os
  tape := s.tape
  output := s.output
  block := fun k hk => by
    have h : W.heap[k]? = some W.heap[k] := Array.getElem?_eq_getElem hk
    have := s.keep k _ h
    rw [h]; exact this
  size := by
    by_cases h0 : W.heap.size = 0
    · omega
    · have hk : W.heap.size - 1 < W.heap.size := by omega
      have h : W.heap[W.heap.size - 1]? = some W.heap[W.heap.size - 1] := Array.getElem?_eq_getElem hk
      have h2 : W'.heap[W.heap.size - 1]? = some W.heap[W.heap.size - 1] := s.keep _ _ h
      have := (Array.getElem?_eq_some_iff.1 h2).1
      omega
section
variable {H : Type} {enc : TypeId × Value → H} {P : Program}
theorem trodAll_below (hl : laidOutB P = true) {W W' : World} (hb : Below W.heap.size W W') (sp : Nat → Bool) : ∀ {ts : List TypeId} {vs : List Value} {ds : List (DataW H)} {ps : List MemPlace},
    (∀ t ∈ ts, P.readableRec t = true ∧ t < P.types.size) → DataW.TrodAll enc P W 0 (fun _ => true) true ts vs ds ps → (∀ x ∈ ps, x.block < W.heap.size) → (∀ x ∈ ps, sp x.block = true) → DataW.TrodAll enc P W' 0 sp true ts vs ds ps
  | [], [], [], _, _, h, _, _ => h
  | t :: _, _ :: _, _ :: _, _, ht, ⟨p, q, h1, h2, e⟩, hlt, hs =>
    ⟨p, q, WideElems.Trod_stays hl (ht t (by simp)).1 (ht t (by simp)).2 h1 (fun x hx => hb.same (hlt x (by rw [e]; exact List.mem_append_left _ hx))) (fun x hx => hs x (by rw [e]; exact List.mem_append_left _ hx)),
      trodAll_below hl hb sp (fun t' ht' => ht t' (List.mem_cons_of_mem _ ht')) h2 (fun x hx => hlt x (by rw [e]; exact List.mem_append_right _ hx)) (fun x hx => hs x (by rw [e]; exact List.mem_append_right _ hx)), e⟩
theorem post_of_below {f : Func} {s : ChangeSpec} {apart fresh handsOn : Bool} {W W' : World} {args : Array Value} {ds gs : List (DataW H)} {before : List MemPlace} {tb : TypeId}
    (hvars : s.vars = []) (hfn : s.fn H ds = { results := [.lit (.bool true)], args := ds }) (hres : f.resultTypes = #[tb]) (hub : P.underlying tb = some .bool)
    (hl : laidOutB P = true) (hpar : ∀ t ∈ f.params.toList, P.readableRec t = true ∧ t < P.types.size)
    (hW : DataW.Whole enc P f.params.toList s.vars apart W args.toList ds gs before) (hb : Below W.heap.size W W') : s.post enc P f apart fresh handsOn false W args (.bool true) W' := by
  have hlt : ∀ x ∈ before, x.block < W.heap.size := fun x hx => by simpa using hW.lt x hx
  have hW' := hW
  obtain ⟨p, q, hA, hV, rfl, _, _⟩ := hW
  rw [hvars] at hV
  obtain ⟨rfl, rfl⟩ := trodVars_none hV
  rw [List.append_nil] at hW' hlt
  refine ⟨ds, [], p, [], p, [], hW', ?_, ?_, ?_, hb.frame _, fun h => by cases h⟩
  · rw [List.append_nil, hfn, hres]
    exact trodAll_cons_mk (shut_bool hub _) trodAll_mk0
  · rw [List.append_nil, hfn]
    exact trodAll_below hl hb _ hpar hA hlt (fun x hx => by simpa using hlt x hx)
  · rw [List.append_nil, hfn, hvars]; exact rfl
end
end Go.Proofs.Ytijjjdljdjnbaaa
end
section
/- What a view is that comes in. -/
namespace Go.Proofs.Ytijjjdljdjnbaaa
set_option maxRecDepth 100000
set_option linter.unusedVariables false
set_option linter.unusedSimpArgs false
open Go.Sx Go.ChangeShapes Go.RowKit

section
variable {H : Type} {enc : TypeId × Value → H} {W : World} {base : Nat} {sp : Nat → Bool} {held : Bool} {fuel : Nat} {cs : List Value} {x : DataW H × List MemPlace}
theorem fldT {P : Program} {t : TypeId} {fs : Array Field} (ht : P.underlying t = some (.struct fs)) (h : DataW.trod enc P W base sp held fuel t cs = some x) (i : Nat) (t' off c : Nat) {f : Field} (hi : fs[i]? = some f) (e1 : f.type = t') (e2 : f.offset = off) (e3 : P.cellsOf t' = c) :
    ∃ n y, DataW.trod enc P W base sp held n t' ((cs.drop off).take c) = some y := by
  subst e1 e2 e3
  obtain ⟨xs, n, _, _, _, hl, hf⟩ := DataW.trod_struct ht h
  have hlt : i < xs.length := by rw [hl]; exact (Array.getElem?_eq_some_iff.1 hi).1
  exact ⟨n, xs[i], by rw [hf i f hi, List.getElem?_eq_getElem hlt]⟩
theorem lenT {P : Program} {t : TypeId} {fs : Array Field} (ht : P.underlying t = some (.struct fs)) (h : DataW.trod enc P W base sp held fuel t cs = some x) : cs.length = P.cellsOf t := by
  obtain ⟨xs, n, _, _, hc, _, _⟩ := DataW.trod_struct ht h
  exact hc
theorem cells1_21 : Try.prog.cellsOf 21 = 1 := by kernel_rfl
theorem cells1_5 : Try.prog.cellsOf 5 = 1 := by kernel_rfl
theorem cells1_51 : Try.prog.cellsOf 51 = 1 := by kernel_rfl
theorem cells1_3 : Try.prog.cellsOf 3 = 1 := by kernel_rfl
theorem cells1_4 : Try.prog.cellsOf 4 = 1 := by kernel_rfl
theorem cells1_22 : Try.prog.cellsOf 22 = 1 := by kernel_rfl
theorem cells3_53 : Try.prog.cellsOf 53 = 3 := by kernel_rfl
theorem cells4_55 : Try.prog.cellsOf 55 = 4 := by kernel_rfl
theorem cells6_24 : Try.prog.cellsOf 24 = 6 := by kernel_rfl
def Cell.In32 (c : Cell) : Prop := c.In ∧ -2147483648 ≤ c.pt ∧ c.pt ≤ 2147483647
theorem trod_cell (h : DataW.trod enc Try.prog W base sp held fuel 55 cs = some x) : ∃ c : Cell, cs = c.enc ∧ c.In32 := by
  have hl := lenT Try.underlying55 h
  rw [cells4_55] at hl
  match cs, hl with
  | [v0, v1, v2, v3], _ =>
    obtain ⟨n0, y0, h0⟩ := fldT Try.underlying55 h 0 21 0 1 rfl rfl rfl cells1_21
    obtain ⟨n1, y1, h1⟩ := fldT Try.underlying55 h 1 53 1 3 rfl rfl rfl cells3_53
    obtain ⟨a0, e0, _, w0⟩ := DataW.trod_int Try.underlying21 h0
    obtain ⟨n2, y2, h2⟩ := fldT Try.underlying53 h1 0 5 0 1 rfl rfl rfl cells1_5
    obtain ⟨n3, y3, h3⟩ := fldT Try.underlying53 h1 1 51 1 1 rfl rfl rfl cells1_51
    obtain ⟨n4, y4, h4⟩ := fldT Try.underlying53 h1 2 51 2 1 rfl rfl rfl cells1_51
    obtain ⟨a1, e1, _, w1⟩ := DataW.trod_int Try.underlying5 h2
    obtain ⟨a2, e2, _, w2⟩ := DataW.trod_int Try.underlying51 h3
    obtain ⟨a3, e3, _, w3⟩ := DataW.trod_int Try.underlying51 h4
    simp at e0 e1 e2 e3
    subst e0 e1 e2 e3
    have b0 := bounds_i32 w0
    have b1 := bounds_u8 w1
    have b2 := bounds_u32 w2
    have b3 := bounds_u32 w3
    exact ⟨⟨a0, a1, a2, a3⟩, rfl, ⟨by dsimp only; omega, by dsimp only; omega, by dsimp only; omega, by dsimp only; omega, by dsimp only; omega, by dsimp only; omega⟩, b0.1, b0.2⟩
theorem keep_cell {E : Env} {Hs : List HProp} {w' : World} (s : St (envOf W) Hs w') {a : Addr} {v : Value} (h : W.cell? a = some v) : w'.cell? a = some v := by
  unfold World.cell? at h ⊢
  cases hb : W.heap[a.block]? with
  | none => rw [hb] at h; cases h
  | some o =>
    have hk : w'.heap[a.block]? = some o := s.keep _ _ hb
    rw [hb] at h; rw [hk]; exact h
theorem spot_none {a : Addr} {v : Value} (h : W.cell? a = some v) : a.spot = none := by
  unfold World.cell? at h
  split at h
  · split at h
    · cases h
    · rename_i h1; simpa using h1
  · cases h
theorem flatC_len (l : List Cell) : (l.flatMap Cell.enc).length = l.length * 4 := by
  induction l with
  | nil => rfl
  | cons c t ih => rw [List.flatMap_cons, List.length_append, ih]; simp [Cell.enc]; omega
theorem trod_cells (h : DataW.trod enc Try.prog W base (fun _ => true) held fuel 22 cs = some x) : ∃ (s : Value) (cells : List Cell), cs = [s] ∧ Sl (envOf W) [] 4 s cells.length (cells.flatMap Cell.enc) ∧ ∀ c ∈ cells, c.In32 := by
  rcases Go.Deep.open_slice Try.underlying22 h with ⟨rfl, _⟩ | ⟨a, len, cap, m, n, D, Pl, rfl, hb, hl, hm, hmm, _, hx⟩
  · exact ⟨_, [], rfl, slNone _ 4, by simp⟩
  · simp only [if_true] at hmm
    subst hmm
    have hc : ∀ i, i < m → ∃ c : Cell, (∀ j, j < 4 → W.cell? (a.add (i * 4 + j)) = c.enc[j]?) ∧ c.In32 := fun i hi => by
      obtain ⟨cs', h1, h2⟩ := hx i hi
      rw [cells4_55] at h1
      obtain ⟨_, _, h3⟩ := World.cells?_some h1
      obtain ⟨c, rfl, hin⟩ := trod_cell h2
      refine ⟨c, fun j hj => ?_, hin⟩
      have := h3 j hj
      rwa [Go.Deep.add_add] at this
    have : ∃ f : Nat → Cell, ∀ i, i < m → (∀ j, j < 4 → W.cell? (a.add (i * 4 + j)) = (f i).enc[j]?) ∧ (f i).In32 :=
      ⟨fun i => if h : i < m then Classical.choose (hc i h) else default, fun i hi => by dsimp only; rw [dif_pos hi]; exact Classical.choose_spec (hc i hi)⟩
    obtain ⟨f, hf⟩ := this
    refine ⟨_, (List.range len).map f, rfl, ?_, ?_⟩
    · have e1 : ((List.range len).map f).length = len := by simp
      rw [e1]
      intro w' s
      by_cases h0 : len = 0
      · subst h0
        exact ⟨by simp, by simp, .inl ⟨rfl, some a, m, rfl, hm⟩⟩
      · have h00 := (hf 0 (by omega)).1 0 (by omega)
        have hspot : a.spot = none := by
          have e : a.add (0 * 4 + 0) = a := by simp [Addr.add]
          rw [e] at h00
          exact spot_none (v := .int .i32 (f 0).pt) h00
        obtain ⟨b, off, spot⟩ := a
        dsimp only at hspot
        subst hspot
        refine ⟨by rw [flatC_len, e1], by omega, .inr ⟨m, rfl, hl, hm, fun j u hj => ?_⟩⟩
        have hjl : j < len * 4 := by
          have := (List.getElem?_eq_some_iff.1 hj).1
          rw [flatC_len, e1] at this
          exact this
        have hd := flat_drop (enc := Cell.enc) (sz := 4) (fun _ => rfl) ((List.range len).map f) (j / 4)
        have hg := gf (enc := Cell.enc) (sz := 4) (fun _ => rfl) (xs := (List.range len).map f) (i := j / 4) (by simp; omega)
        have hi : ((List.range len).map f)[j / 4]! = f (j / 4) := by
          rw [getElem!_pos _ _ (by simp; omega)]; simp
        rw [hi] at hg
        have hu : (f (j / 4)).enc[j % 4]? = some u := by
          rw [← hg, List.getElem?_take_of_lt (by omega), List.getElem?_drop, show j / 4 * 4 + j % 4 = j by omega]; exact hj
        have h2 := (hf (j / 4) (by omega)).1 (j % 4) (by omega)
        rw [hu, addr_add, show j / 4 * 4 + j % 4 = j by omega] at h2
        exact keep_cell (E := envOf W) s h2
    · intro c hc'
      simp only [List.mem_map, List.mem_range] at hc'
      obtain ⟨i, hi, rfl⟩ := hc'
      exact (hf i (by omega)).2
end
end Go.Proofs.Ytijjjdljdjnbaaa
end
section
/- A view as an argument. -/
namespace Go.Proofs.Ytijjjdljdjnbaaa
set_option maxRecDepth 100000
set_option linter.unusedVariables false
set_option linter.unusedSimpArgs false
open Go.Sx Go.ChangeShapes Go.RowKit Go.WideShapes

theorem open_view {H : Type} {enc : TypeId × Value → H} {W : World} {b0 : Nat} {v0 : Value} {d : DataW H} {p : List MemPlace} (hval : Value.okWide Try.prog W .any b0 24 v0) (h0 : DataW.Trod enc Try.prog W 0 (fun _ => true) true 24 v0 d p) :
    ∃ (v : View) (s : Value), v0 = v.val s ∧ v.has (envOf W) [] s ∧ ∀ c ∈ v.cells, c.In32 := by
  obtain ⟨cs, rfl, _⟩ := okWide_struct Try.underlying24 hval
  obtain ⟨n, h⟩ := h0
  have e : (Value.agg cs).cells.toList = cs.toList := rfl
  rw [e] at h
  have hl := lenT Try.underlying24 h
  rw [cells6_24] at hl
  obtain ⟨l⟩ := cs
  dsimp only at h hl
  match l, hl with
  | [v0, v1, v2, v3, v4, v5], _ =>
    obtain ⟨n0, y0, h0⟩ := fldT Try.underlying24 h 0 3 0 1 rfl rfl rfl cells1_3
    obtain ⟨n1, y1, h1⟩ := fldT Try.underlying24 h 1 3 1 1 rfl rfl rfl cells1_3
    obtain ⟨n2, y2, h2⟩ := fldT Try.underlying24 h 2 22 2 1 rfl rfl rfl cells1_22
    obtain ⟨n3, y3, h3⟩ := fldT Try.underlying24 h 3 3 3 1 rfl rfl rfl cells1_3
    obtain ⟨n4, y4, h4⟩ := fldT Try.underlying24 h 4 3 4 1 rfl rfl rfl cells1_3
    obtain ⟨n5, y5, h5⟩ := fldT Try.underlying24 h 5 4 5 1 rfl rfl rfl cells1_4
    obtain ⟨a0, e0, _, w0⟩ := DataW.trod_int Try.underlying3 h0
    obtain ⟨a1, e1, _, w1⟩ := DataW.trod_int Try.underlying3 h1
    obtain ⟨s, cells, e2, hs, hc⟩ := trod_cells h2
    obtain ⟨a3, e3, _, w3⟩ := DataW.trod_int Try.underlying3 h3
    obtain ⟨a4, e4, _, w4⟩ := DataW.trod_int Try.underlying3 h4
    obtain ⟨b5, e5, _⟩ := DataW.trod_bool Try.underlying4 h5
    simp at e0 e1 e2 e3 e4 e5
    subst e0 e1 e2 e3 e4 e5
    exact ⟨⟨a0, a1, cells, a3, a4, b5⟩, v2, rfl, hs, hc⟩
end Go.Proofs.Ytijjjdljdjnbaaa
end
section
/- Bytes that were written are read as what they were written of. -/
namespace Go.Proofs.Ytijjjdljdjnbaaa
set_option maxRecDepth 100000
set_option linter.unusedVariables false
set_option linter.unusedSimpArgs false
open Go.Sx

theorem getElem!_app {l k : List Int} {i : Nat} (h : i < k.length) : (l ++ k)[l.length + i]! = k[i]! := by
  rw [getElem!_pos (l ++ k) (l.length + i) (by simp; omega), getElem!_pos k i h]
  simp
/-- the number that n bytes from the place j on make, behind v -/
theorem foldB_bytes (v : Int) (n : Nat) : ∀ (m j : Nat), j + m = n → foldB (v / 256 ^ (n - j)) ((List.range' j m).map (byteAt v n)) = v
  | 0, j, h => by
    have : n - j = 0 := by omega
    rw [this]; simp [foldB]
  | m + 1, j, h => by
    have e : foldB (v / 256 ^ (n - j)) ((List.range' j (m + 1)).map (byteAt v n)) = foldB (v / 256 ^ (n - j) * 256 + byteAt v n j) ((List.range' (j + 1) m).map (byteAt v n)) := rfl
    rw [e]
    have e2 : v / 256 ^ (n - j) * 256 + byteAt v n j = v / 256 ^ (n - (j + 1)) := by
      unfold byteAt
      rw [show n - j = (n - (j + 1)) + 1 by omega, show n - 1 - j = n - (j + 1) by omega, Int.pow_succ, ← Int.ediv_ediv_of_nonneg (Int.pow_nonneg (by omega))]
      omega
    rw [e2]
    exact foldB_bytes v n m (j + 1) (by omega)
theorem putL_head {v : Int} (h0 : 0 ≤ v) (h1 : v < 4611686018427387904) : putL v = (byteAt v (sizeS v) 0 + 64 * (classS v : Int)) :: (List.range' 1 (sizeS v - 1)).map (byteAt v (sizeS v)) := by
  have hz := sizeS_pos h1
  unfold putL
  obtain ⟨m, hm⟩ : ∃ m, sizeS v = m + 1 := ⟨sizeS v - 1, by omega⟩
  rw [hm, List.range_succ_eq_map]
  simp only [List.map_cons, if_true, List.map_map, Nat.add_sub_cancel]
  congr 1
  rw [List.range'_eq_map_range, List.map_map]
  refine List.map_congr_left fun j hj => ?_
  simp [Nat.add_comm]
theorem manyS_put {v : Int} (h0 : 0 ≤ v) (h1 : v < 4611686018427387904) : manyS (byteAt v (sizeS v) 0 + 64 * (classS v : Int)) = sizeS v ∧ (byteAt v (sizeS v) 0 + 64 * (classS v : Int)) % 64 = byteAt v (sizeS v) 0 := by
  have hz := sizeS_pos h1
  obtain ⟨hb0, hb1⟩ := byte0_lt v h0 (by omega)
  obtain ⟨hc, hs⟩ := class_of_size (v := v) (by omega)
  refine ⟨?_, by omega⟩
  unfold manyS
  have : ((byteAt v (sizeS v) 0 + 64 * (classS v : Int)) / 64).toNat = classS v := by omega
  rw [this, ← hs]
theorem getS_put (l r : List Int) {v : Int} (h0 : 0 ≤ v) (h1 : v < 4611686018427387904) : getS (l ++ (putL v ++ r)) l.length = (v, (l.length : Int) + sizeS v, 0) := by
  have hz := sizeS_pos h1
  obtain ⟨hm1, hm2⟩ := manyS_put h0 h1
  obtain ⟨hb0, hb1⟩ := byte0_lt v h0 (by omega)
  have hp := putL_head h0 h1
  have hlen := putL_len v
  have hx : (l ++ (putL v ++ r))[l.length]! = byteAt v (sizeS v) 0 + 64 * (classS v : Int) := by
    rw [hp]
    rw [getElem!_pos _ _ (by simp)]
    simp
  have htake : ((l ++ (putL v ++ r)).drop (l.length + 1)).take (sizeS v - 1) = (List.range' 1 (sizeS v - 1)).map (byteAt v (sizeS v)) := by
    rw [List.drop_append, List.drop_eq_nil_of_le (by omega), List.nil_append, show l.length + 1 - l.length = 1 by omega, hp, List.cons_append, List.drop_succ_cons, List.drop_zero]
    rw [List.take_append_of_le_length (by simp), List.take_of_length_le (by simp)]
  unfold getS
  have hl : (l ++ (putL v ++ r)).length = l.length + (sizeS v + r.length) := by simp [hlen]
  rw [if_neg (by rw [hl]; omega), if_neg (by rw [hl]; omega)]
  simp only [Int.toNat_natCast]
  rw [hx, hm1, hm2, if_neg (by rw [hl]; omega), htake]
  have hf : foldB (byteAt v (sizeS v) 0) ((List.range' 1 (sizeS v - 1)).map (byteAt v (sizeS v))) = v := by
    have h := foldB_bytes v (sizeS v) (sizeS v - 1) 1 (by omega)
    have e : v / 256 ^ (sizeS v - 1) = byteAt v (sizeS v) 0 := by
      unfold byteAt
      have hq : v / 256 ^ (sizeS v - 1) < 256 := by
        unfold sizeS classS at *
        (repeat' split) <;> simp_all <;> omega
      have hq0 : 0 ≤ v / 256 ^ (sizeS v - 1) := Int.ediv_nonneg h0 (Int.pow_nonneg (by omega))
      rw [Nat.sub_zero, Int.emod_eq_of_lt hq0 hq]
    rw [e] at h
    exact h
  rw [hf]
  simp
end Go.Proofs.Ytijjjdljdjnbaaa
end
section
/- Views that were written are read as they were. -/
namespace Go.Proofs.Ytijjjdljdjnbaaa
set_option maxRecDepth 100000
set_option linter.unusedVariables false
set_option linter.unusedSimpArgs false
open Go.Sx

theorem styleR_put (l r : List Int) {c : Cell} (h : c.okStyle = true) : styleR (l ++ (c.styleB ++ r)) l.length = ((c.fl, c.fg, c.bg), (l.length : Int) + c.styleN, 0) := by
  have hf : isCol c.fg = true ∧ isCol c.bg = true := by simpa [Cell.okStyle, okSty] using h
  have b1 := isCol_bound hf.1
  have b2 := isCol_bound hf.2
  have e1 : l ++ (c.styleB ++ r) = (l ++ [c.fl]) ++ (putL c.fg ++ (putL c.bg ++ r)) := by simp [Cell.styleB]
  have e2 : l ++ (c.styleB ++ r) = (l ++ [c.fl] ++ putL c.fg) ++ (putL c.bg ++ r) := by simp [Cell.styleB]
  have g1 := getS_put (l ++ [c.fl]) (putL c.bg ++ r) (v := c.fg) (by omega) (by omega)
  have g2 := getS_put (l ++ [c.fl] ++ putL c.fg) r (v := c.bg) (by omega) (by omega)
  rw [← e1, show (((l ++ [c.fl]).length : Nat) : Int) = (l.length : Int) + 1 by simp] at g1
  rw [← e2, show (((l ++ [c.fl] ++ putL c.fg).length : Nat) : Int) = (l.length : Int) + 1 + sizeS c.fg by simp [putL_len]; omega] at g2
  have hl : (l ++ (c.styleB ++ r)).length = l.length + (1 + sizeS c.fg + sizeS c.bg + r.length) := by simp [Cell.styleB, putL_len]; omega
  have hx : (l ++ (c.styleB ++ r))[l.length]! = c.fl := by
    rw [getElem!_pos _ _ (by rw [hl]; omega)]
    simp [Cell.styleB]
  unfold styleR
  rw [if_neg (by rw [hl]; omega), if_neg (by rw [hl]; omega)]
  simp only [g1, g2, Int.toNat_natCast, hx]
  rw [Int.min_eq_left (by omega), Int.min_eq_left (by omega)]
  simp only [hf.1, hf.2, Bool.and_self, if_true]
  simp [Cell.styleN]; omega
theorem cellR_put (l r : List Int) {c : Cell} (h : c.ok = true) : cellR (l ++ (c.bytes ++ r)) l.length = (c, (l.length : Int) + c.size, 0) := by
  have hk : isPt c.pt = true ∧ c.okStyle = true := by simpa [Cell.ok, okCell] using h
  have b1 := isPt_bound hk.1
  have e1 : l ++ (c.bytes ++ r) = l ++ (c.styleB ++ (putL c.pt ++ r)) := by simp [Cell.bytes]
  have e2 : l ++ (c.bytes ++ r) = (l ++ c.styleB) ++ (putL c.pt ++ r) := by simp [Cell.bytes]
  have g1 := styleR_put l (putL c.pt ++ r) hk.2
  have g2 := getS_put (l ++ c.styleB) r (v := c.pt) (by omega) (by omega)
  have hs : c.styleB.length = c.styleN := by simp [Cell.styleB, Cell.styleN, putL_len]; omega
  rw [← e1] at g1
  rw [← e2, show (((l ++ c.styleB).length : Nat) : Int) = (l.length : Int) + c.styleN by simp [hs]] at g2
  unfold cellR
  simp only [g1, g2]
  rw [Int.min_eq_left (by omega)]
  have : (⟨c.pt, c.fl, c.fg, c.bg⟩ : Cell).ok = true := h
  simp only [this, if_true]
  simp [Cell.size]; omega
theorem runs_split : ∀ (t : List Cell) (c : Cell) (n : Nat), ∃ m, m ≤ t.length ∧ t = List.replicate m c ++ t.drop m ∧ runsFrom c n t = putL ((n + m : Nat) : Int) ++ (c.bytes ++ runsB (t.drop m))
  | [], c, n => ⟨0, by simp, by simp, by simp [runsFrom, runsB]⟩
  | d :: t, c, n => by
    by_cases e : d = c
    · obtain ⟨m, h1, h2, h3⟩ := runs_split t c (n + 1)
      refine ⟨m + 1, by simp; omega, ?_, ?_⟩
      · rw [List.replicate_succ, List.cons_append, List.drop_succ_cons, ← h2, e]
      · simp only [runsFrom, e, if_true, List.drop_succ_cons]
        rw [h3, show n + 1 + m = n + (m + 1) by omega]
    · refine ⟨0, by simp, by simp, ?_⟩
      simp [runsFrom, runsB, e]
theorem readCells_runs : ∀ (k : Nat) (xs cs : List Cell) (l : List Int), (∀ c ∈ xs, c.ok = true) → cs.length + xs.length ≤ 480 → (runsB xs).length < k → readCells (l ++ runsB xs) k cs l.length = (cs ++ xs, ((l ++ runsB xs).length : Int))
  | 0, xs, cs, l, _, _, h => by omega
  | k + 1, [], cs, l, _, _, h => by
    unfold readCells
    rw [if_neg (by simp [runsB])]
    simp [runsB]
  | k + 1, c :: t, cs, l, hok, hn, h => by
    obtain ⟨m, h1, h2, h3⟩ := runs_split t c 1
    have hr : runsB (c :: t) = putL ((1 + m : Nat) : Int) ++ (c.bytes ++ runsB (t.drop m)) := h3
    have hc := hok c (by simp)
    simp only [List.length_cons] at hn
    have hz := sizeS_pos (v := ((1 + m : Nat) : Int)) (by omega)
    have g := getS_put l (c.bytes ++ runsB (t.drop m)) (v := ((1 + m : Nat) : Int)) (by omega) (by omega)
    have e2 : l ++ runsB (c :: t) = (l ++ putL ((1 + m : Nat) : Int)) ++ (c.bytes ++ runsB (t.drop m)) := by rw [hr]; simp
    have g2 := cellR_put (l ++ putL ((1 + m : Nat) : Int)) (runsB (t.drop m)) hc
    rw [← e2, show (((l ++ putL ((1 + m : Nat) : Int)).length : Nat) : Int) = (l.length : Int) + sizeS ((1 + m : Nat) : Int) by simp [putL_len]] at g2
    rw [← hr] at g
    have hlen : (runsB (c :: t)).length = sizeS ((1 + m : Nat) : Int) + (c.size + (runsB (t.drop m)).length) := by rw [hr]; simp [putL_len, Cell.bytes_len]
    unfold readCells
    rw [if_pos (by rw [List.length_append, hlen]; omega), g]
    dsimp only
    rw [if_neg (by omega), g2]
    dsimp only
    rw [if_neg (by omega), Int.toNat_natCast]
    have ih := readCells_runs k (t.drop m) (cs ++ List.replicate (1 + m) c) (l ++ putL ((1 + m : Nat) : Int) ++ c.bytes) (fun d hd => hok d (List.mem_cons_of_mem _ (List.mem_of_mem_drop hd))) (by simp; omega) (by omega)
    have e3 : (l ++ putL ((1 + m : Nat) : Int) ++ c.bytes) ++ runsB (t.drop m) = l ++ runsB (c :: t) := by rw [hr]; simp
    rw [e3, show (((l ++ putL ((1 + m : Nat) : Int) ++ c.bytes).length : Nat) : Int) = (l.length : Int) + sizeS ((1 + m : Nat) : Int) + c.size by simp [putL_len, Cell.bytes_len]; omega] at ih
    rw [ih]
    congr 1
    rw [List.append_assoc]
    congr 1
    rw [show 1 + m = m + 1 by omega, List.replicate_succ, List.cons_append, ← h2]
theorem readV_bytes {v : View} (h : v.ok = true) : readV v.bytes = some v := by
  obtain ⟨⟨hrc, f1, f2, f3, f4, f5⟩, hc⟩ := View.ok_fits h
  have hm := mul_bound hrc
  have hb : v.bytes = v.head ++ runsB v.cells := rfl
  have hl : v.head.length = 5 := rfl
  have hr := readCells_runs (v.bytes.length + 1) v.cells [] v.head hc (by simp; omega) (by rw [hb, List.length_append]; omega)
  rw [← hb] at hr
  have ha : readAll v.bytes = (v.cells, (v.bytes.length : Int)) := by unfold readAll; exact hr
  have h4 : v.bytes[4]! = if v.vis then 1 else 0 := by
    rw [hb, getElem!_pos _ _ (by rw [List.length_append, hl]; omega)]; rfl
  have h0 : v.bytes[0]! = v.rows := by rw [hb, getElem!_pos _ _ (by rw [List.length_append, hl]; omega)]; rfl
  have h1 : v.bytes[1]! = v.cols := by rw [hb, getElem!_pos _ _ (by rw [List.length_append, hl]; omega)]; rfl
  have h2 : v.bytes[2]! = v.row := by rw [hb, getElem!_pos _ _ (by rw [List.length_append, hl]; omega)]; rfl
  have h3 : v.bytes[3]! = v.col := by rw [hb, getElem!_pos _ _ (by rw [List.length_append, hl]; omega)]; rfl
  have hw : readW v.bytes = v := by
    unfold readW
    rw [ha, h0, h1, h2, h3, h4]
    cases v with
    | mk a b c d e f => cases f <;> simp
  unfold readV
  rw [if_neg (by rw [h4, hb, List.length_append, hl]; split <;> omega), hw, ha, if_pos ⟨rfl, h, rfl⟩]
theorem readV_some {bs : List Int} {v : View} (h : readV bs = some v) : v.ok = true ∧ v.bytes = bs := by
  unfold readV at h
  split at h
  · cases h
  · split at h
    · rename_i h2
      obtain rfl := Option.some.inj h
      exact ⟨h2.2.1, h2.2.2⟩
    · cases h
theorem bytes_inj {a b : View} (ha : a.ok = true) (hb : b.ok = true) : a.bytes = b.bytes ↔ a = b := by
  constructor
  · intro h
    have h1 := readV_bytes ha
    rw [h, readV_bytes hb] at h1
    exact (Option.some.inj h1).symm
  · rintro rfl; rfl
end Go.Proofs.Ytijjjdljdjnbaaa
end
section
/- view.Write and view.Read, whatever comes in: one contract each. -/
namespace Go.Proofs.Ytijjjdljdjnbaaa
set_option maxRecDepth 100000
set_option linter.unusedVariables false
set_option linter.unusedSimpArgs false
open Go.Sx

/-- what is written: nothing of what may not be -/
def View.wB (v : View) : List Int := if v.ok then v.bytes else []
def View.wE (v : View) : Int := if v.ok then 0 else 3
theorem write_any (E : Env) (v : View) (s : Value) (h : v.has E [] s) : Does Try.prog 28 #[v.val s] E [] fun r H' => ∃ s', r = .tuple #[s', .int .i64 v.wE] ∧ H' = [osl 5 1 s' v.wB.length (v.wB.map (.int .u8))] := by
  cases hk : v.ok with
  | true =>
    have e1 : v.wB = v.bytes := by simp [View.wB, hk]
    have e2 : v.wE = 0 := by simp [View.wE, hk]
    rw [e1, e2]; exact write_ok E v s h hk
  | false =>
    have e1 : v.wB = [] := by simp [View.wB, hk]
    have e2 : v.wE = 3 := by simp [View.wE, hk]
    rw [e1, e2]
    intro w s0
    refine (write_no E v s h hk w s0).mono ?_
    rintro e w' ⟨r, H', he, ⟨rfl, rfl⟩, s'⟩
    exact ⟨_, _, he, ⟨_, rfl, rfl⟩, osl_nil s'⟩
def rdV (bs : List Int) : View := (readV bs).getD View.none
def rdE (bs : List Int) : Int := match readV bs with
  | some _ => 0
  | none => 3
theorem read_any (E : Env) (b : Value) (bs : List Int) (h : Sl E [] 1 b bs.length (bs.map (.int .u8))) (hb : Byt bs) : Does Try.prog 29 #[b] E [] fun r H' => ∃ s, r = .tuple #[(rdV bs).val s, .int .i64 (rdE bs)] ∧ H' = [osl 55 4 s (rdV bs).cells.length ((rdV bs).cells.flatMap Cell.enc)] := by
  have h1 := read_ok E b bs h hb
  cases hr : readV bs with
  | some v =>
    have e1 : rdV bs = v := by simp [rdV, hr]
    have e2 : rdE bs = 0 := by simp [rdE, hr]
    rw [e1, e2]
    rw [hr] at h1
    exact h1
  | none =>
    have e1 : rdV bs = View.none := by simp [rdV, hr]
    have e2 : rdE bs = 3 := by simp [rdE, hr]
    rw [e1, e2]
    rw [hr] at h1
    intro w s0
    refine (h1 w s0).mono ?_
    rintro e w' ⟨r, H', he, ⟨rfl, rfl⟩, s'⟩
    exact ⟨_, _, he, ⟨_, rfl, rfl⟩, osl_nil s'⟩
theorem wB_byt {v : View} (hf : ∀ c ∈ v.cells, c.Fl) : Byt v.wB := by
  unfold View.wB
  cases hk : v.ok with
  | true => simpa using View.bytes_byt hk hf
  | false => intro i hi; simp at hi
end Go.Proofs.Ytijjjdljdjnbaaa
end
section
/- ViewBack. -/
namespace Go.Proofs.Ytijjjdljdjnbaaa
set_option maxRecDepth 100000
set_option linter.unusedVariables false
set_option linter.unusedSimpArgs false
open Go.Sx

theorem read_back (E : Env) (V : View) (hok : V.ok = true) (hf : ∀ c ∈ V.cells, c.Fl) (s : Value) (h : Sl E [] 1 s V.wB.length (V.wB.map (.int .u8))) : Does Try.prog 29 #[s] E [] fun r H' => ∃ s', r = .tuple #[V.val s', .int .i64 0] ∧ H' = [osl 55 4 s' V.cells.length (V.cells.flatMap Cell.enc)] := by
  have h1 := read_ok E s V.wB h (wB_byt hf)
  have hw : V.wB = V.bytes := by simp [View.wB, hok]
  rw [hw, readV_bytes hok] at h1
  exact h1
theorem back_ok (E : Env) (v o : View) (s t b : Value) (bs : List Int) (hv : v.has E [] s) (ho : o.has E [] t) (hb : Sl E [] 1 b bs.length (bs.map (.int .u8))) (hbt : Byt bs) (fv : ∀ c ∈ v.cells, c.Fl) (fo : ∀ c ∈ o.cells, c.Fl) :
    Does Try.prog 9 #[v.val s, o.val t, b] E [] fun r H' => r = .bool true ∧ H' = [] := by
  have bv := wB_byt fv
  have bo := wB_byt fo
  obtain ⟨vr, vc, cells, vo, vl, vv⟩ := v
  obtain ⟨wr, wc, dells, wo, wl, wv⟩ := o
  unfold View.has at hv ho
  dsimp only at hv ho
  refine Does.pure hv.isSl fun hsl => ?_
  obtain ⟨sa, sm, sc, rfl⟩ := hsl
  refine Does.pure ho.isSl fun hsl => ?_
  obtain ⟨ta, tm, tc, rfl⟩ := hsl
  refine Does.go (args := [View.val ⟨vr, vc, cells, vo, vl, vv⟩ (.slice sa sm sc), View.val ⟨wr, wc, dells, wo, wl, wv⟩ (.slice ta tm tc), b]) _ _ Try.func9 rfl Try.ntmps9 rfl rfl ?_
  refine Body.seq ?_
  refine Body.region ?_
  refine Ops.s (Stp.box (lk rfl) rfl (fun b3 => ?_)) rfl
  refine Ops.s (Stp.box (lk rfl) rfl (fun b4 => ?_)) rfl
  refine Ops.u (Dtu.asg (lk rfl)) rfl ?_
  refine Ops.nil ?_
  refine Then.next ?_
  refine Body.seq ?_
  refine Body.seq ?_
  refine Body.region ?_
  refine Ops.u (Dtu.fld fa24_2 (lk rfl)) rfl ?_
  refine Ops.d (Det.ld Try.isAgg22 (lk rfl) (Rd.ow 1 rfl rfl)) rfl ?_
  refine Ops.u (Dtu.lenS Try.underlying22 (Sl.up hv) (lk rfl)) rfl ?_
  refine Ops.u (Dtu.gtr (lk rfl) (lk rfl)) rfl ?_
  refine Ops.u (Dtu.mv (lk rfl)) rfl ?_
  refine Ops.decP 21 rfl (fun c21 => ?_) (fun c21 => ?_)
  · refine Ops.gn rfl rfl rfl rfl rfl ?_
    refine Ops.gn rfl rfl rfl rfl rfl ?_
    refine Ops.gn rfl rfl rfl rfl rfl ?_
    refine Ops.gn rfl rfl rfl rfl rfl ?_
    refine Ops.u (Dtu.pickT (lk rfl) (lk rfl)) rfl ?_
    refine Ops.u (Dtu.mv (lk rfl)) rfl ?_
    refine Ops.gn rfl rfl rfl rfl rfl ?_
    refine Ops.gn rfl rfl rfl rfl rfl ?_
    refine Ops.gn rfl rfl rfl rfl rfl ?_
    refine Ops.u (Dtu.pickT (lk rfl) (lk rfl)) rfl ?_
    refine Ops.nil ?_
    refine Then.next ?_
    refine Body.condT (lk rfl) ?_
    refine Body.seq ?_
    refine Body.region ?_
    refine Ops.s (Stp.call rfl Try.call27 (lks rfl) (fun E' le hat => alive20_ok E') ?_) rfl
    rintro _ _ ⟨rfl, rfl⟩
    refine Ops.u (Dtu.asg (lk rfl)) rfl ?_
    refine Ops.nil ?_
    refine Then.next ?_
    refine Body.ret ?_
    refine Then.ret ?_
    exact ⟨.inr rfl, _, pk [] rfl, rfl, rfl⟩
  · refine Ops.gu rfl rfl rfl (Dtu.fld fa24_2 (lk rfl)) rfl ?_
    refine Ops.gd rfl rfl rfl (Det.ld Try.isAgg22 (lk rfl) (Rd.ow 0 rfl rfl)) rfl ?_
    refine Ops.gu rfl rfl rfl (Dtu.lenS Try.underlying22 (Sl.up ho) (lk rfl)) rfl ?_
    refine Ops.gu rfl rfl rfl (Dtu.gtr (lk rfl) (lk rfl)) rfl ?_
    refine Ops.u (Dtu.pickF (lk rfl) (lk rfl)) rfl ?_
    refine Ops.u (Dtu.mv (lk rfl)) rfl ?_
    refine Ops.decP 27 rfl (fun c27 => ?_) (fun c27 => ?_)
    · refine Ops.gn rfl rfl rfl rfl rfl ?_
      refine Ops.gn rfl rfl rfl rfl rfl ?_
      refine Ops.gn rfl rfl rfl rfl rfl ?_
      refine Ops.u (Dtu.pickT (lk rfl) (lk rfl)) rfl ?_
      refine Ops.nil ?_
      refine Then.next ?_
      refine Body.condT (lk rfl) ?_
      refine Body.seq ?_
      refine Body.region ?_
      refine Ops.s (Stp.call rfl Try.call27 (lks rfl) (fun E' le hat => alive20_ok E') ?_) rfl
      rintro _ _ ⟨rfl, rfl⟩
      refine Ops.u (Dtu.asg (lk rfl)) rfl ?_
      refine Ops.nil ?_
      refine Then.next ?_
      refine Body.ret ?_
      refine Then.ret ?_
      exact ⟨.inr rfl, _, pk [] rfl, rfl, rfl⟩
    · refine Ops.gu rfl rfl rfl (Dtu.mv (lk rfl)) rfl ?_
      refine Ops.gu rfl rfl rfl (Dtu.lenS Try.underlying32 (Sl.up hb) (lk rfl)) rfl ?_
      refine Ops.gu rfl rfl rfl (Dtu.gtr (lk rfl) (lk rfl)) rfl ?_
      refine Ops.u (Dtu.pickF (lk rfl) (lk rfl)) rfl ?_
      refine Ops.nil ?_
      refine Then.next ?_
      refine Body.condP (lk rfl) (fun c31 => ?_) (fun c31 => ?_)
      · refine Body.seq ?_
        refine Body.region ?_
        refine Ops.s (Stp.call rfl Try.call27 (lks rfl) (fun E' le hat => alive20_ok E') ?_) rfl
        rintro _ _ ⟨rfl, rfl⟩
        refine Ops.u (Dtu.asg (lk rfl)) rfl ?_
        refine Ops.nil ?_
        refine Then.next ?_
        refine Body.ret ?_
        refine Then.ret ?_
        exact ⟨.inr rfl, _, pk [] rfl, rfl, rfl⟩
      · refine Body.skip ?_
        refine Then.next ?_
        refine Body.seq ?_
        refine Body.region ?_
        refine Ops.d (Det.lda Try.isAgg24 Try.sizeOf24 (lk rfl) (Rds.ow (m := 6) 1 rfl rfl) rfl) rfl ?_
        refine Ops.s (Stp.call rfl Try.call28 (lks rfl) (fun E' le hat => write_any E' ⟨vr, vc, cells, vo, vl, vv⟩ _ (Sl.mono hv le)) ?_) rfl
        rintro _ _ ⟨s35, rfl, rfl⟩
        refine Ops.u (Dtu.mv (lk rfl)) rfl ?_
        refine Ops.u (Dtu.ext (lk rfl) rfl) rfl ?_
        refine Ops.u (Dtu.ext (lk rfl) rfl) rfl ?_
        refine Ops.u (Dtu.asg (lk rfl)) rfl ?_
        refine Ops.u (Dtu.asg (lk rfl)) rfl ?_
        refine Ops.nil ?_
        refine Then.next ?_
        refine Body.seq ?_
        refine Body.region ?_
        refine Ops.d (Det.lda Try.isAgg24 Try.sizeOf24 (lk rfl) (Rds.ow (m := 6) 1 rfl rfl) rfl) rfl ?_
        refine Ops.s (Stp.call rfl Try.call28 (lks rfl) (fun E' le hat => write_any E' ⟨wr, wc, dells, wo, wl, wv⟩ _ (Sl.mono ho le)) ?_) rfl
        rintro _ _ ⟨s40, rfl, rfl⟩
        refine Ops.u (Dtu.mv (lk rfl)) rfl ?_
        refine Ops.u (Dtu.ext (lk rfl) rfl) rfl ?_
        refine Ops.u (Dtu.ext (lk rfl) rfl) rfl ?_
        refine Ops.u (Dtu.asg (lk rfl)) rfl ?_
        refine Ops.u (Dtu.asg (lk rfl)) rfl ?_
        refine Ops.nil ?_
        refine Then.next ?_
        refine Body.seqJ (γ := Unit) rfl (fun _ => []) (fun _ => []) (fun _ => True) ?_ ?_
        · generalize hV : View.mk vr vc cells vo vl vv = V at *
          refine Body.seq ?_
          refine Body.region ?_
          refine Ops.u (Dtu.mv (lk rfl)) rfl ?_
          refine Ops.u (Dtu.eql (lk rfl) (lk rfl)) rfl ?_
          refine Ops.nil ?_
          refine Then.next ?_
          refine Body.condP (lk rfl) (fun c44 => ?_) (fun c44 => ?_)
          · have hok : V.ok = true := by
              cases hk : V.ok with
              | true => rfl
              | false => simp [View.wE, hk] at c44
            refine Body.seq ?_
            refine Body.region ?_
            refine Ops.u (Dtu.mv (lk rfl)) rfl ?_
            refine Ops.s (Stp.call rfl Try.call29 (lks rfl) (fun E' le hat => read_back E' V hok fv _ (Sl.at (hat _ (.tail _ (.head _))))) ?_) rfl
            rintro _ _ ⟨s47, rfl, rfl⟩
            refine Ops.u (Dtu.mv (lk rfl)) rfl ?_
            refine Ops.u (Dtu.ext (lk rfl) rfl) rfl ?_
            refine Ops.u (Dtu.ext (lk rfl) rfl) rfl ?_
            refine Ops.s (Stp.alloc ty24 (fun b11 => ?_)) rfl
            refine Ops.pure (Sl.isSl (Sl.osl 1 rfl)) fun h47 => ?_
            obtain ⟨a47, m47, c47, rfl⟩ := h47
            have hv' : V.has E [] (.slice sa sm sc) := by rw [← hV]; exact hv
            have hVV : V = V := rfl
            have hVV2 : ¬ ¬ (V = V) := fun h => h rfl
            refine Ops.e (Stp.store 0 Try.sizeOf24 (lk rfl) (lk rfl) rfl rfl rfl rfl rfl rfl rfl ?_)
            refine Ops.u (Dtu.asg (lk rfl)) rfl ?_
            refine Ops.nil ?_
            refine Then.next ?_
            refine Body.seq ?_
            refine Body.draw mixed ?_
            refine AB.u 0 rfl (by decide +kernel) (Dtu.mv (lk rfl)) rfl ?_
            refine AB.u 1 rfl (by decide +kernel) (Dtu.neq (lk rfl) (lk rfl)) rfl ?_
            refine AB.u 2 rfl (by decide +kernel) (Dtu.mv (lk rfl)) rfl ?_
            refine AB.decP 52 rfl (fun hy => absurd hy (by first | omega | assumption | decide)) (fun _ => ?_)
            refine AB.gd 3 rfl (by decide +kernel) rfl rfl rfl rfl (Det.lda Try.isAgg24 Try.sizeOf24 (lk rfl) (Rds.ow (m := 6) 0 rfl rfl) rfl) rfl ?_
            refine AB.gd 4 rfl (by decide +kernel) rfl rfl rfl rfl (Det.lda Try.isAgg24 Try.sizeOf24 (lk rfl) (Rds.ow (m := 6) 5 rfl rfl) rfl) rfl ?_
            refine AB.gs 5 rfl (by decide +kernel) (by decide +kernel) rfl rfl rfl (Stp.call rfl Try.call26 (lks rfl) (fun E' le hat => same_ok E' V V (.slice a47 m47 c47) (.slice sa sm sc) (Sl.at (hat _ (.tail _ (.head _)))) (Sl.mono hv' le)) ?_) rfl
            rintro _ _ ⟨rfl, rfl⟩
            generalize hO : View.mk wr wc dells wo wl wv = O at *
            have ho' : O.has E [] (.slice ta tm tc) := by rw [← hO]; exact ho
            refine AB.gu 6 rfl (by decide +kernel) rfl rfl rfl (Dtu.notP (lk rfl)) rfl ?_
            refine AB.u 7 rfl (by decide +kernel) (Dtu.pickF (lk rfl) (lk rfl)) rfl ?_
            refine AB.u 8 rfl (by decide +kernel) (Dtu.mv (lk rfl)) rfl ?_
            refine AB.decP 58 rfl (fun hy => absurd hy (by first | omega | assumption | decide)) (fun _ => ?_)
            refine AB.gu 9 rfl (by decide +kernel) rfl rfl rfl (Dtu.mv (lk rfl)) rfl ?_
            refine AB.gu 10 rfl (by decide +kernel) rfl rfl rfl (Dtu.eql (lk rfl) (lk rfl)) rfl ?_
            refine AB.gu 11 rfl (by decide +kernel) rfl rfl rfl (Dtu.mv (lk rfl)) rfl ?_
            refine AB.decP 61 rfl (fun c61 => ?_) (fun c61 => ?_)
            · have hok2 : O.ok = true := by
                cases hk : O.ok with
                | true => rfl
                | false => simp [View.wE, hk] at c61
              have hne : ¬ (decide ((strOfNums V.wB).toList = (strOfNums O.wB).toList) ≠ decide (V = O)) := by
                have h1 : V.wB = V.bytes := by simp [View.wB, hok]
                have h2 : O.wB = O.bytes := by simp [View.wB, hok2]
                have h3 := strOfNums_inj bv bo
                have h4 : V.wB = O.wB ↔ V = O := by rw [h1, h2]; exact bytes_inj hok hok2
                simp only [h3, h4]; simp
              refine AB.gu 12 rfl (by decide +kernel) rfl rfl rfl (Dtu.mv (lk rfl)) rfl ?_
              refine AB.gd 13 rfl (by decide +kernel) rfl rfl rfl rfl (Det.bstr Try.underlying32 Try.underlying5 Try.underlying9 (lk rfl) (Sl.osl 3 rfl)) rfl ?_
              refine AB.gu 14 rfl (by decide +kernel) rfl rfl rfl (Dtu.mv (lk rfl)) rfl ?_
              refine AB.gd 15 rfl (by decide +kernel) rfl rfl rfl rfl (Det.bstr Try.underlying32 Try.underlying5 Try.underlying9 (lk rfl) (Sl.osl 2 rfl)) rfl ?_
              refine AB.gu 16 rfl (by decide +kernel) rfl rfl rfl (Dtu.eqStr (lk rfl) (lk rfl)) rfl ?_
              refine AB.gd 17 rfl (by decide +kernel) rfl rfl rfl rfl (Det.lda Try.isAgg24 Try.sizeOf24 (lk rfl) (Rds.ow (m := 6) 5 rfl rfl) rfl) rfl ?_
              refine AB.gd 18 rfl (by decide +kernel) rfl rfl rfl rfl (Det.lda Try.isAgg24 Try.sizeOf24 (lk rfl) (Rds.ow (m := 6) 4 rfl rfl) rfl) rfl ?_
              refine AB.gs 19 rfl (by decide +kernel) (by decide +kernel) rfl rfl rfl (Stp.call rfl Try.call26 (lks rfl) (fun E' le hat => same_ok E' ⟨_, _, _, _, _, _⟩ ⟨_, _, _, _, _, _⟩ _ _ (Sl.mono (by assumption) le) (Sl.mono (by assumption) le)) ?_) rfl
              rintro _ _ ⟨rfl, rfl⟩
              refine AB.gu 20 rfl (by decide +kernel) rfl rfl rfl (Dtu.neB Try.underlying4 (lk rfl) (lk rfl)) rfl ?_
              refine AB.gu 21 rfl (by decide +kernel) rfl rfl rfl (Dtu.pickT (lk rfl) (lk rfl)) rfl ?_
              refine AB.u 22 rfl (by decide +kernel) (Dtu.pickF (lk rfl) (lk rfl)) rfl ?_
              refine AB.done (by decide +kernel) ?_
              refine Then.next ?_
              refine Body.condP (lk rfl) (fun hy => absurd hy (by first | omega | assumption | decide)) (fun _ => ?_)
              refine Body.skip ?_
              exact Joint.goK [] () rfl rfl rfl trivial rfl rfl trivial
            · refine AB.gn 12 rfl (by decide +kernel) rfl rfl rfl rfl rfl ?_
              refine AB.gn 13 rfl (by decide +kernel) rfl rfl rfl rfl rfl ?_
              refine AB.gn 14 rfl (by decide +kernel) rfl rfl rfl rfl rfl ?_
              refine AB.gn 15 rfl (by decide +kernel) rfl rfl rfl rfl rfl ?_
              refine AB.gn 16 rfl (by decide +kernel) rfl rfl rfl rfl rfl ?_
              refine AB.gn 17 rfl (by decide +kernel) rfl rfl rfl rfl rfl ?_
              refine AB.gn 18 rfl (by decide +kernel) rfl rfl rfl rfl rfl ?_
              refine AB.gn 19 rfl (by decide +kernel) rfl rfl rfl rfl rfl ?_
              refine AB.gn 20 rfl (by decide +kernel) rfl rfl rfl rfl rfl ?_
              refine AB.gu 21 rfl (by decide +kernel) rfl rfl rfl (Dtu.pickF (lk rfl) (lk rfl)) rfl ?_
              refine AB.u 22 rfl (by decide +kernel) (Dtu.pickF (lk rfl) (lk rfl)) rfl ?_
              refine AB.done (by decide +kernel) ?_
              refine Then.next ?_
              refine Body.condF (lk rfl) ?_
              refine Body.skip ?_
              exact Joint.goK [] () rfl rfl rfl trivial rfl rfl trivial
          · refine Body.skip ?_
            exact Joint.goK [] () rfl rfl rfl trivial rfl rfl trivial
        · intro _ u _
          have hfin : rdE bs = 0 → (rdV bs).wE = 0 ∧ (rdV bs).wB = bs := fun h0 => by
            cases hr : readV bs with
            | none => simp [rdE, hr] at h0
            | some q =>
              obtain ⟨k1, k2⟩ := readV_some hr
              simp [rdV, hr, View.wE, View.wB, k1, k2]
          refine Body.seq ?_
          refine Body.region ?_
          refine Ops.u (Dtu.mv (lk rfl)) rfl ?_
          refine Ops.s (Stp.call rfl Try.call29 (lks rfl) (fun E' le hat => read_any E' _ _ (Sl.mono hb le) hbt) ?_) rfl
          rintro _ _ ⟨s75, rfl, rfl⟩
          refine Ops.u (Dtu.mv (lk rfl)) rfl ?_
          refine Ops.u (Dtu.ext (lk rfl) rfl) rfl ?_
          refine Ops.u (Dtu.ext (lk rfl) rfl) rfl ?_
          refine Ops.s (Stp.alloc ty24 (fun b13 => ?_)) rfl
          refine Ops.pure (Sl.isSl (Sl.osl 1 rfl)) fun h75 => ?_
          obtain ⟨a75, m75, c75, rfl⟩ := h75
          refine Ops.e (Stp.store 0 Try.sizeOf24 (lk rfl) (lk rfl) rfl rfl rfl rfl rfl rfl rfl ?_)
          refine Ops.u (Dtu.asg (lk rfl)) rfl ?_
          refine Ops.nil ?_
          refine Then.next ?_
          refine Body.seq ?_
          refine Body.region ?_
          refine Ops.d (Det.lda Try.isAgg24 Try.sizeOf24 (lk rfl) (Rds.ow (m := 6) 0 rfl rfl) rfl) rfl ?_
          refine Ops.s (Stp.call rfl Try.call28 (lks rfl) (fun E' le hat => write_any E' (rdV bs) _ (Sl.at (hat _ (.tail _ (.head _))))) ?_) rfl
          rintro _ _ ⟨s80, rfl, rfl⟩
          refine Ops.u (Dtu.mv (lk rfl)) rfl ?_
          refine Ops.u (Dtu.ext (lk rfl) rfl) rfl ?_
          refine Ops.u (Dtu.ext (lk rfl) rfl) rfl ?_
          refine Ops.u (Dtu.asg (lk rfl)) rfl ?_
          refine Ops.u (Dtu.asg (lk rfl)) rfl ?_
          refine Ops.nil ?_
          refine Then.next ?_
          refine Body.seq ?_
          refine Body.region ?_
          refine Ops.s (Stp.call rfl Try.call27 (lks rfl) (fun E' le hat => alive20_ok E') ?_) rfl
          rintro _ _ ⟨rfl, rfl⟩
          refine Ops.u (Dtu.mv (lk rfl)) rfl ?_
          refine Ops.gu rfl rfl rfl (Dtu.mv (lk rfl)) rfl ?_
          refine Ops.gu rfl rfl rfl (Dtu.neq (lk rfl) (lk rfl)) rfl ?_
          refine Ops.gu rfl rfl rfl (Dtu.mv (lk rfl)) rfl ?_
          refine Ops.decP 87 rfl (fun c87 => ?_) (fun c87 => ?_)
          · refine Ops.gn rfl rfl rfl rfl rfl ?_
            refine Ops.gn rfl rfl rfl rfl rfl ?_
            refine Ops.gn rfl rfl rfl rfl rfl ?_
            refine Ops.gn rfl rfl rfl rfl rfl ?_
            refine Ops.gn rfl rfl rfl rfl rfl ?_
            refine Ops.gn rfl rfl rfl rfl rfl ?_
            refine Ops.gn rfl rfl rfl rfl rfl ?_
            refine Ops.gn rfl rfl rfl rfl rfl ?_
            refine Ops.gn rfl rfl rfl rfl rfl ?_
            refine Ops.gu rfl rfl rfl (Dtu.pickT (lk rfl) (lk rfl)) rfl ?_
            refine Ops.u (Dtu.pickT (lk rfl) (lk rfl)) rfl ?_
            refine Ops.u (Dtu.asg (lk rfl)) rfl ?_
            refine Ops.nil ?_
            refine Then.next ?_
            refine Body.ret ?_
            exact ⟨.inr rfl, _, pk [] rfl, rfl, rfl⟩
          · obtain ⟨k1, k2⟩ := hfin (by omega)
            have k3 : (strOfNums (rdV bs).wB).toList = (strOfNums bs).toList := by rw [k2]
            refine Ops.gu rfl rfl rfl (Dtu.mv (lk rfl)) rfl ?_
            refine Ops.gu rfl rfl rfl (Dtu.eql (lk rfl) (lk rfl)) rfl ?_
            refine Ops.gu rfl rfl rfl (Dtu.mv (lk rfl)) rfl ?_
            refine Ops.decP 90 rfl (fun _ => ?_) (fun hn => absurd (by first | omega | assumption | decide) hn)
            refine Ops.gu rfl rfl rfl (Dtu.mv (lk rfl)) rfl ?_
            refine Ops.gd rfl rfl rfl (Det.bstr Try.underlying32 Try.underlying5 Try.underlying9 (lk rfl) (Sl.osl 0 rfl)) rfl ?_
            refine Ops.gu rfl rfl rfl (Dtu.mv (lk rfl)) rfl ?_
            refine Ops.gd rfl rfl rfl (Det.bstr Try.underlying32 Try.underlying5 Try.underlying9 (lk rfl) (Sl.up hb)) rfl ?_
            refine Ops.gu rfl rfl rfl (Dtu.eqStr (lk rfl) (lk rfl)) rfl ?_
            refine Ops.gu rfl rfl rfl (Dtu.pickT (lk rfl) (lk rfl)) rfl ?_
            refine Ops.gu rfl rfl rfl (Dtu.pickF (lk rfl) (lk rfl)) rfl ?_
            refine Ops.u (Dtu.pickT (lk rfl) (lk rfl)) rfl ?_
            refine Ops.u (Dtu.asg (lk rfl)) rfl ?_
            refine Ops.nil ?_
            refine Then.next ?_
            refine Body.ret ?_
            exact ⟨.inr rfl, _, pk [] rfl, bool_eq (by simp [k3]), rfl⟩
end Go.Proofs.Ytijjjdljdjnbaaa
end
section
/- Bytes as an argument. -/
namespace Go.Proofs.Ytijjjdljdjnbaaa
set_option maxRecDepth 100000
set_option linter.unusedVariables false
set_option linter.unusedSimpArgs false
open Go.Sx Go.ChangeShapes Go.RowKit Go.WideShapes
section
variable {H : Type} {enc : TypeId × Value → H} {W : World} {base : Nat} {held : Bool} {fuel : Nat} {cs : List Value} {x : DataW H × List MemPlace}
theorem trod_bytes (h : DataW.trod enc Try.prog W base (fun _ => true) held fuel 32 cs = some x) : ∃ (s : Value) (bs : List Int), cs = [s] ∧ Sl (envOf W) [] 1 s bs.length (bs.map (.int .u8)) ∧ Byt bs := by
  rcases Go.Deep.open_slice1 Try.underlying32 cells1_5 h with ⟨rfl, _⟩ | ⟨a, len, cap, m, n, V, D, Pl, rfl, hb, hl, hm, hmm, _, hx⟩
  · exact ⟨_, [], rfl, slNone _ 1, fun i hi => by simp at hi⟩
  · simp only [if_true] at hmm
    subst hmm
    have hc : ∀ i, i < m → ∃ c : Int, W.cell? (a.add i) = some (.int .u8 c) ∧ 0 ≤ c ∧ c < 256 := fun i hi => by
      obtain ⟨h1, h2⟩ := hx i hi
      obtain ⟨c, e, _, w0⟩ := DataW.trod_int Try.underlying5 h2
      have := bounds_u8 w0
      simp at e
      exact ⟨c, by rw [h1, e], by omega, by omega⟩
    have : ∃ f : Nat → Int, ∀ i, i < m → W.cell? (a.add i) = some (.int .u8 (f i)) ∧ 0 ≤ f i ∧ f i < 256 :=
      ⟨fun i => if h : i < m then Classical.choose (hc i h) else 0, fun i hi => by dsimp only; rw [dif_pos hi]; exact Classical.choose_spec (hc i hi)⟩
    obtain ⟨f, hf⟩ := this
    refine ⟨_, (List.range len).map f, rfl, ?_, ?_⟩
    · have e1 : ((List.range len).map f).length = len := by simp
      rw [e1]
      intro w' s
      by_cases h0 : len = 0
      · subst h0
        exact ⟨by simp, by simp, .inl ⟨rfl, some a, m, rfl, hm⟩⟩
      · have h00 := (hf 0 (by omega)).1
        have hspot : a.spot = none := by
          have e : a.add 0 = a := by simp [Addr.add]
          rw [e] at h00
          exact spot_none h00
        obtain ⟨b, off, spot⟩ := a
        dsimp only at hspot
        subst hspot
        refine ⟨by simp, by omega, .inr ⟨m, rfl, hl, hm, fun j u hj => ?_⟩⟩
        have hjl : j < len := by
          have := (List.getElem?_eq_some_iff.1 hj).1
          simpa using this
        have h2 := (hf j (by omega)).1
        rw [addr_add] at h2
        have hu : u = .int .u8 (f j) := by
          simp [List.getElem?_map, List.getElem?_range hjl] at hj
          exact hj.symm
        rw [hu]
        exact keep_cell (E := envOf W) s h2
    · intro i hi
      have hi' : i < len := by simpa using hi
      rw [getElem!_pos _ i hi]
      simp only [List.getElem_map, List.getElem_range]
      exact (hf i (by omega)).2
theorem Cell.In32.Fl {c : Cell} (h : c.In32) : c.Fl := ⟨h.1.1, h.1.2.1⟩
end
end Go.Proofs.Ytijjjdljdjnbaaa
end
