/- A cell's and a style's bytes. -/
import Derived.Test.YtijjjdljdjnbaaaView
namespace Go.Proofs.Ytijjjdljdjnbaaa
set_option maxRecDepth 100000
set_option linter.unusedVariables false
set_option linter.unusedSimpArgs false
open Go.Sx

theorem sizeS_pos {v : Int} (h : v < 4611686018427387904) : 1 ≤ sizeS v := by
  unfold sizeS classS; (repeat' split) <;> simp_all <;> omega
theorem put_fine (E : Env) (v : Int) (h0 : 0 ≤ v) (h1 : v < 4611686018427387904) : Does Try.prog 73 #[.int .u64 v] E [] fun r H' =>
    ∃ s, (1 ≤ sizeS v ∧ sizeS v ≤ 8) ∧ r = .tuple #[s, .int .i64 0] ∧ H' = [osl 5 1 s (sizeS v) ((putL v).map (.int .u8))] := by
  have hz := sizeS_pos h1
  have hz2 := sizeS_le v
  refine (put_ok E v h0).mono ?_
  rintro r H' (⟨h, _⟩ | ⟨_, s, h2, h3⟩)
  · omega
  · exact ⟨s, ⟨hz, hz2⟩, h2, h3⟩
theorem isCol_bound {c : Int} (h : isCol c = true) : 0 ≤ c ∧ c < 50331648 := by simp [isCol] at h; omega
theorem isPt_bound {c : Int} (h : isPt c = true) : 0 ≤ c ∧ c ≤ 1114111 := by simp [isPt] at h; omega
def Cell.styleB (c : Cell) : List Int := [c.fl] ++ (putL c.fg ++ putL c.bg)
def Cell.bytes (c : Cell) : List Int := c.styleB ++ putL c.pt
def Cell.styleN (c : Cell) : Nat := 1 + sizeS c.fg + sizeS c.bg
def Cell.size (c : Cell) : Nat := c.styleN + sizeS c.pt
def Cell.sn (c : Cell) : Nat → Nat
  | 0 => 1
  | 1 => 1 + sizeS c.fg
  | _ => 1 + sizeS c.fg + sizeS c.bg
def Cell.sb (c : Cell) : Nat → List Int
  | 0 => [c.fl]
  | 1 => [c.fl] ++ putL c.fg
  | _ => [c.fl] ++ putL c.fg ++ putL c.bg
theorem styleWrite_ok (E : Env) (c : Cell) (h : c.okStyle = true) : Does Try.prog 77 #[.agg c.style.toArray] E [] fun r H' => ∃ s, (3 ≤ c.styleN ∧ c.styleN ≤ 17) ∧ r = .tuple #[s, .int .i64 0] ∧ H' = [osl 5 1 s c.styleN (c.styleB.map (.int .u8))] := by
  have hf : isCol c.fg = true ∧ isCol c.bg = true := by simpa [Cell.okStyle, okSty] using h
  have b1 := isCol_bound hf.1
  have b2 := isCol_bound hf.2
  have z1 := sizeS_le c.fg
  have z2 := sizeS_le c.bg
  have z3 := sizeS_pos (v := c.fg) (by omega)
  have z4 := sizeS_pos (v := c.bg) (by omega)
  refine Does.go (args := [.agg c.style.toArray]) _ _ Try.func77 rfl Try.ntmps77 rfl rfl ?_
  refine Body.seq ?_
  refine Body.region ?_
  refine Ops.s (Stp.box (lk rfl) rfl (fun b1 => ?_)) rfl
  refine Ops.u (Dtu.asg (lk rfl)) rfl ?_
  refine Ops.u (Dtu.asg (lk rfl)) rfl ?_
  refine Ops.nil ?_
  refine Then.next ?_
  refine Body.seq ?_
  refine Body.seq ?_
  refine Body.region ?_
  refine Ops.d (Det.lda Try.isAgg53 Try.sizeOf53 (lk rfl) (Rds.ow (m := 3) 0 rfl rfl) rfl) rfl ?_
  refine Ops.s (Stp.call rfl Try.call108 (lks rfl) (fun E' le hat => styleRight_ok E' _ _ _) ?_) rfl
  rintro _ _ ⟨rfl, rfl⟩
  refine Ops.u (Dtu.not (lk rfl)) rfl ?_
  refine Ops.nil ?_
  refine Then.next ?_
  refine Body.cond (lk rfl) (fun hn => absurd hn (by simp [h])) (fun _ => ?_)
  refine Body.skip ?_
  refine Then.next ?_
  refine Body.seq ?_
  refine Body.region ?_
  refine Ops.u (Dtu.fld fa53_0 (lk rfl)) rfl ?_
  refine Ops.d (Det.ld Try.isAgg5 (lk rfl) (Rd.ow 0 rfl rfl)) rfl ?_
  refine Ops.s (Stp.buildSliceO Try.underlying32 ty5 (by decide) (by decide) (lkp rfl) rfl rfl rfl (by decide) (fun v14 => ?_)) rfl
  refine Ops.u (Dtu.asg (lk rfl)) rfl ?_
  refine Ops.nil ?_
  refine Then.next ?_
  refine Body.seq ?_
  refine Body.seq ?_
  refine Body.region ?_
  refine Ops.u (Dtu.fld fa53_1 (lk rfl)) rfl ?_
  refine Ops.d (Det.ld Try.isAgg51 (lk rfl) (Rd.ow 1 rfl rfl)) rfl ?_
  refine Ops.u (Dtu.fld fa53_2 (lk rfl)) rfl ?_
  refine Ops.d (Det.ld Try.isAgg51 (lk rfl) (Rd.ow 1 rfl rfl)) rfl ?_
  refine Ops.u (Dtu.buildArr ty184 Try.underlying184 Try.sizeOf51 (lkp rfl) rfl rfl) rfl ?_
  refine Ops.u (Dtu.mv (lk rfl)) rfl ?_
  refine Ops.nil ?_
  refine Then.next ?_
  refine Body.block ?_
  refine Body.loopF (γ := Nat × Value) rfl (fun g => [(20, .int .i64 g.1), (4, g.2)]) (fun g => [osl 5 1 g.2 (c.sn g.1) ((c.sb g.1).map (.int .u8)), own b1 c.style 53]) (fun g => g.1 ≤ 2) (fun g => 2 - g.1) (0, v14) (by simp) ⟨rfl, rfl, trivial⟩ rfl ?_
  rintro ⟨i, o⟩ u hi
  match i, hi with
  | 0, _ =>
    dsimp only
    rw [show c.sn 0 = 1 from rfl, show c.sb 0 = [c.fl] from rfl]
    refine Body.seq ?_
    refine Body.region ?_
    refine Ops.u (Dtu.lss (lk rfl) (lk rfl)) rfl ?_
    refine Ops.nil ?_
    refine Then.next ?_
    refine Body.seq ?_
    refine Body.condP (lk rfl) (fun _ => ?_) (fun hn => absurd (by first | omega | assumption | decide) hn)
    refine Body.skip ?_
    refine Then.next ?_
    refine Body.seq ?_
    refine Body.block ?_
    refine Body.seq ?_
    refine Body.region ?_
    refine Ops.u (Dtu.ixv (i := 0) Try.underlying184 Try.sizeOf51 Try.isAgg51 (lk rfl) (lk rfl) (by omega) (by omega) rfl) rfl ?_
    refine Ops.u (Dtu.asg (lk rfl)) rfl ?_
    refine Ops.nil ?_
    refine Then.next ?_
    refine Body.seq ?_
    refine Body.region ?_
    refine Ops.u (Dtu.mv (lk rfl)) rfl ?_
    refine Ops.u (Dtu.cvt Try.underlying51 Try.underlying75 (lk rfl) (wu64 (by omega) (by omega))) rfl ?_
    refine Ops.s (Stp.call rfl Try.call73 (lks rfl) (fun E' le hat => put_fine E' _ (by omega) (by omega)) ?_) rfl
    rintro _ _ ⟨s26, hz26, rfl, rfl⟩
    refine Ops.u (Dtu.mv (lk rfl)) rfl ?_
    refine Ops.u (Dtu.ext (lk rfl) rfl) rfl ?_
    refine Ops.u (Dtu.ext (lk rfl) rfl) rfl ?_
    refine Ops.u (Dtu.asg (lk rfl)) rfl ?_
    refine Ops.u (Dtu.asg (lk rfl)) rfl ?_
    refine Ops.nil ?_
    refine Then.next ?_
    refine Body.seq ?_
    refine Body.seq ?_
    refine Body.region ?_
    refine Ops.u (Dtu.mv (lk rfl)) rfl ?_
    refine Ops.u (Dtu.neq (lk rfl) (lk rfl)) rfl ?_
    refine Ops.nil ?_
    refine Then.next ?_
    refine Body.condP (lk rfl) (fun hy => absurd hy (by first | omega | assumption | decide)) (fun _ => ?_)
    refine Body.skip ?_
    refine Then.next ?_
    refine Body.region ?_
    refine Ops.u (Dtu.mv (lk rfl)) rfl ?_
    refine Ops.u (Dtu.mv (lk rfl)) rfl ?_
    refine Ops.s (Stp.append 1 Try.underlying32 ty5 rfl rfl (lk rfl) (lk rfl) (Sl.osl 0 rfl) (by first | rfl | exact all_map (fun _ => rfl) _ | exact all_flat (fun _ => rfl) _) (by omega) (by omega) (fun v34 => ?_)) rfl
    refine Ops.u (Dtu.asg (lk rfl)) rfl ?_
    refine Ops.nil ?_
    refine Blk.norm ?_
    refine Then.next ?_
    refine Body.region ?_
    refine Ops.u (Dtu.add (lk rfl) (lk rfl) (w64 (by omega) (by omega))) rfl ?_
    refine Ops.u (Dtu.mv (lk rfl)) rfl ?_
    refine Ops.nil ?_
    exact Round.goK [1, 1] (1, v34) rfl rfl rfl ⟨rfl, rfl, trivial⟩ rfl (by simp [Cell.sn, Cell.sb]) (by simp) (by simp)
  | 1, _ =>
    dsimp only
    rw [show c.sn 1 = 1 + sizeS c.fg from rfl, show c.sb 1 = [c.fl] ++ putL c.fg from rfl]
    refine Body.seq ?_
    refine Body.region ?_
    refine Ops.u (Dtu.lss (lk rfl) (lk rfl)) rfl ?_
    refine Ops.nil ?_
    refine Then.next ?_
    refine Body.seq ?_
    refine Body.condP (lk rfl) (fun _ => ?_) (fun hn => absurd (by first | omega | assumption | decide) hn)
    refine Body.skip ?_
    refine Then.next ?_
    refine Body.seq ?_
    refine Body.block ?_
    refine Body.seq ?_
    refine Body.region ?_
    refine Ops.u (Dtu.ixv (i := 1) Try.underlying184 Try.sizeOf51 Try.isAgg51 (lk rfl) (lk rfl) (by omega) (by omega) rfl) rfl ?_
    refine Ops.u (Dtu.asg (lk rfl)) rfl ?_
    refine Ops.nil ?_
    refine Then.next ?_
    refine Body.seq ?_
    refine Body.region ?_
    refine Ops.u (Dtu.mv (lk rfl)) rfl ?_
    refine Ops.u (Dtu.cvt Try.underlying51 Try.underlying75 (lk rfl) (wu64 (by omega) (by omega))) rfl ?_
    refine Ops.s (Stp.call rfl Try.call73 (lks rfl) (fun E' le hat => put_fine E' _ (by omega) (by omega)) ?_) rfl
    rintro _ _ ⟨s26, hz26, rfl, rfl⟩
    refine Ops.u (Dtu.mv (lk rfl)) rfl ?_
    refine Ops.u (Dtu.ext (lk rfl) rfl) rfl ?_
    refine Ops.u (Dtu.ext (lk rfl) rfl) rfl ?_
    refine Ops.u (Dtu.asg (lk rfl)) rfl ?_
    refine Ops.u (Dtu.asg (lk rfl)) rfl ?_
    refine Ops.nil ?_
    refine Then.next ?_
    refine Body.seq ?_
    refine Body.seq ?_
    refine Body.region ?_
    refine Ops.u (Dtu.mv (lk rfl)) rfl ?_
    refine Ops.u (Dtu.neq (lk rfl) (lk rfl)) rfl ?_
    refine Ops.nil ?_
    refine Then.next ?_
    refine Body.condP (lk rfl) (fun hy => absurd hy (by first | omega | assumption | decide)) (fun _ => ?_)
    refine Body.skip ?_
    refine Then.next ?_
    refine Body.region ?_
    refine Ops.u (Dtu.mv (lk rfl)) rfl ?_
    refine Ops.u (Dtu.mv (lk rfl)) rfl ?_
    refine Ops.s (Stp.append 1 Try.underlying32 ty5 rfl rfl (lk rfl) (lk rfl) (Sl.osl 0 rfl) (by first | rfl | exact all_map (fun _ => rfl) _ | exact all_flat (fun _ => rfl) _) (by omega) (by omega) (fun v34 => ?_)) rfl
    refine Ops.u (Dtu.asg (lk rfl)) rfl ?_
    refine Ops.nil ?_
    refine Blk.norm ?_
    refine Then.next ?_
    refine Body.region ?_
    refine Ops.u (Dtu.add (lk rfl) (lk rfl) (w64 (by omega) (by omega))) rfl ?_
    refine Ops.u (Dtu.mv (lk rfl)) rfl ?_
    refine Ops.nil ?_
    exact Round.goK [1, 1] (2, v34) rfl rfl rfl ⟨rfl, rfl, trivial⟩ rfl (by simp [Cell.sn, Cell.sb]) (by simp) (by simp)
  | 2, _ =>
    dsimp only
    rw [show c.sn 2 = 1 + sizeS c.fg + sizeS c.bg from rfl, show c.sb 2 = [c.fl] ++ putL c.fg ++ putL c.bg from rfl]
    refine Body.seq ?_
    refine Body.region ?_
    refine Ops.u (Dtu.lss (lk rfl) (lk rfl)) rfl ?_
    refine Ops.nil ?_
    refine Then.next ?_
    refine Body.seq ?_
    refine Body.condP (lk rfl) (fun hy => absurd hy (by first | omega | assumption | decide)) (fun _ => ?_)
    refine Body.exit ?_
    refine Then.exit ?_
    refine Round.exit ?_
    refine Blk.here ?_
    refine Then.next ?_
    refine Body.seq ?_
    refine Body.region ?_
    refine Ops.u (Dtu.mv (lk rfl)) rfl ?_
    refine Ops.u (Dtu.asg (lk rfl)) rfl ?_
    refine Ops.u (Dtu.asg (lk rfl)) rfl ?_
    refine Ops.nil ?_
    refine Then.next ?_
    refine Body.ret ?_
    exact ⟨.inr rfl, _, pk [0] rfl, o, by unfold Cell.styleN; omega, rfl, by simp [Cell.styleB, Cell.styleN]⟩
theorem putCell_ok (E : Env) (c : Cell) (h : c.ok = true) : Does Try.prog 33 #[.agg c.enc.toArray] E [] fun r H' => ∃ s, (4 ≤ c.size ∧ c.size ≤ 25) ∧ r = .tuple #[s, .int .i64 0] ∧ H' = [osl 5 1 s c.size (c.bytes.map (.int .u8))] := by
  have hf : isPt c.pt = true ∧ c.okStyle = true := by simpa [Cell.ok, okCell] using h
  have b1 := isPt_bound hf.1
  have hs := hf.2
  have z1 := sizeS_le c.pt
  have z3 := sizeS_pos (v := c.pt) (by omega)
  refine Does.go (args := [.agg c.enc.toArray]) _ _ Try.func33 rfl Try.ntmps33 rfl rfl ?_
  refine Body.seq ?_
  refine Body.region ?_
  refine Ops.s (Stp.box (lk rfl) rfl (fun b1 => ?_)) rfl
  refine Ops.u (Dtu.asg (lk rfl)) rfl ?_
  refine Ops.u (Dtu.asg (lk rfl)) rfl ?_
  refine Ops.nil ?_
  refine Then.next ?_
  refine Body.seq ?_
  refine Body.seq ?_
  refine Body.region ?_
  refine Ops.d (Det.lda Try.isAgg55 Try.sizeOf55 (lk rfl) (Rds.ow (m := 4) 0 rfl rfl) rfl) rfl ?_
  refine Ops.s (Stp.call rfl Try.call70 (lks rfl) (fun E' le hat => isCell_ok E' _ _ _ _) ?_) rfl
  rintro _ _ ⟨rfl, rfl⟩
  refine Ops.u (Dtu.not (lk rfl)) rfl ?_
  refine Ops.nil ?_
  refine Then.next ?_
  refine Body.cond (lk rfl) (fun hn => absurd hn (by simp [h])) (fun _ => ?_)
  refine Body.skip ?_
  refine Then.next ?_
  refine Body.seq ?_
  refine Body.region ?_
  refine Ops.u (Dtu.fld fa55_1 (lk rfl)) rfl ?_
  refine Ops.d (Det.lda Try.isAgg53 Try.sizeOf53 (lk rfl) (Rds.ow (m := 3) 0 rfl rfl) rfl) rfl ?_
  refine Ops.s (Stp.call rfl Try.call77 (lks rfl) (fun E' le hat => styleWrite_ok E' _ (by assumption)) ?_) rfl
  rintro _ _ ⟨s13, hz13, rfl, rfl⟩
  refine Ops.u (Dtu.mv (lk rfl)) rfl ?_
  refine Ops.u (Dtu.ext (lk rfl) rfl) rfl ?_
  refine Ops.u (Dtu.ext (lk rfl) rfl) rfl ?_
  refine Ops.u (Dtu.asg (lk rfl)) rfl ?_
  refine Ops.u (Dtu.asg (lk rfl)) rfl ?_
  refine Ops.nil ?_
  refine Then.next ?_
  refine Body.seq ?_
  refine Body.seq ?_
  refine Body.region ?_
  refine Ops.u (Dtu.mv (lk rfl)) rfl ?_
  refine Ops.u (Dtu.neq (lk rfl) (lk rfl)) rfl ?_
  refine Ops.nil ?_
  refine Then.next ?_
  refine Body.condP (lk rfl) (fun hy => absurd hy (by first | omega | assumption | decide)) (fun _ => ?_)
  refine Body.skip ?_
  refine Then.next ?_
  refine Body.seq ?_
  refine Body.region ?_
  refine Ops.u (Dtu.fld fa55_0 (lk rfl)) rfl ?_
  refine Ops.d (Det.ld Try.isAgg21 (lk rfl) (Rd.ow 1 rfl rfl)) rfl ?_
  refine Ops.u (Dtu.cvt Try.underlying21 Try.underlying75 (lk rfl) (wu64 (by omega) (by omega))) rfl ?_
  refine Ops.s (Stp.call rfl Try.call73 (lks rfl) (fun E' le hat => put_fine E' _ (by omega) (by omega)) ?_) rfl
  rintro _ _ ⟨s23, hz23, rfl, rfl⟩
  refine Ops.u (Dtu.mv (lk rfl)) rfl ?_
  refine Ops.u (Dtu.ext (lk rfl) rfl) rfl ?_
  refine Ops.u (Dtu.ext (lk rfl) rfl) rfl ?_
  refine Ops.u (Dtu.asg (lk rfl)) rfl ?_
  refine Ops.u (Dtu.asg (lk rfl)) rfl ?_
  refine Ops.nil ?_
  refine Then.next ?_
  refine Body.seq ?_
  refine Body.seq ?_
  refine Body.region ?_
  refine Ops.u (Dtu.mv (lk rfl)) rfl ?_
  refine Ops.u (Dtu.neq (lk rfl) (lk rfl)) rfl ?_
  refine Ops.nil ?_
  refine Then.next ?_
  refine Body.condP (lk rfl) (fun hy => absurd hy (by first | omega | assumption | decide)) (fun _ => ?_)
  refine Body.skip ?_
  refine Then.next ?_
  refine Body.seq ?_
  refine Body.region ?_
  refine Ops.u (Dtu.mv (lk rfl)) rfl ?_
  refine Ops.u (Dtu.mv (lk rfl)) rfl ?_
  refine Ops.s (Stp.append 1 Try.underlying32 ty5 rfl rfl (lk rfl) (lk rfl) (Sl.osl 0 rfl) (by first | rfl | exact all_map (fun _ => rfl) _ | exact all_flat (fun _ => rfl) _) (by omega) (by omega) (fun v31 => ?_)) rfl
  refine Ops.u (Dtu.asg (lk rfl)) rfl ?_
  refine Ops.u (Dtu.asg (lk rfl)) rfl ?_
  refine Ops.nil ?_
  refine Then.next ?_
  refine Body.ret ?_
  exact ⟨.inr rfl, _, pk [1] rfl, v31, by unfold Cell.size; omega, rfl, by simp [Cell.bytes, Cell.size]⟩
theorem putCell_no (E : Env) (c : Cell) (h : c.ok = false) : Does Try.prog 33 #[.agg c.enc.toArray] E [] fun r H' => r = .tuple #[.slice none 0 0, .int .i64 3] ∧ H' = [] := by
  refine Does.go (args := [.agg c.enc.toArray]) _ _ Try.func33 rfl Try.ntmps33 rfl rfl ?_
  refine Body.seq ?_
  refine Body.region ?_
  refine Ops.s (Stp.box (lk rfl) rfl (fun b1 => ?_)) rfl
  refine Ops.u (Dtu.asg (lk rfl)) rfl ?_
  refine Ops.u (Dtu.asg (lk rfl)) rfl ?_
  refine Ops.nil ?_
  refine Then.next ?_
  refine Body.seq ?_
  refine Body.seq ?_
  refine Body.region ?_
  refine Ops.d (Det.lda Try.isAgg55 Try.sizeOf55 (lk rfl) (Rds.ow (m := 4) 0 rfl rfl) rfl) rfl ?_
  refine Ops.s (Stp.call rfl Try.call70 (lks rfl) (fun E' le hat => isCell_ok E' _ _ _ _) ?_) rfl
  rintro _ _ ⟨rfl, rfl⟩
  refine Ops.u (Dtu.not (lk rfl)) rfl ?_
  refine Ops.nil ?_
  refine Then.next ?_
  refine Body.cond (lk rfl) (fun _ => ?_) (fun hn => absurd hn (by simp [h]))
  refine Body.seq ?_
  refine Body.region ?_
  refine Ops.u (Dtu.asg (lk rfl)) rfl ?_
  refine Ops.u (Dtu.asg (lk rfl)) rfl ?_
  refine Ops.nil ?_
  refine Then.next ?_
  refine Body.ret ?_
  refine Then.ret ?_
  exact ⟨.inr rfl, _, pk [] rfl, rfl, rfl⟩
end Go.Proofs.Ytijjjdljdjnbaaa
