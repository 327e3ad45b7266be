/- The document's styles and cells: there and back. -/
import Derived.Test.YtijjjdljdjnbaaaRefD
namespace Go.Proofs.Ytijjjdljdjnbaaa
set_option maxRecDepth 100000
set_option linter.unusedVariables false
set_option linter.unusedSimpArgs false
open Go.Sx

def Cell.rsty (c : Cell) : List Value := Go.Proofs.Ytijjjdljdjnbaaa.rsty c.fl c.fg c.bg
def Cell.renc (c : Cell) : List Value := .int .i32 c.pt :: Go.Proofs.Ytijjjdljdjnbaaa.rsty c.fl c.fg c.bg
theorem rwriteS_ok (E : Env) (c : Cell) (hi : 0 ≤ c.fl ∧ c.fl < 256) (h : c.okStyle = true) : Does Try.prog 82 #[.agg c.rsty.toArray] E [] fun r H' => ∃ s, (3 ≤ c.styleN ∧ c.styleN ≤ 17) ∧ r = s ∧ H' = [osl 5 1 s c.styleN (c.styleB.map (.int .u8))] := by
  have hf : isCol c.fg = true ∧ isCol c.bg = true := by simpa [Cell.okStyle, okSty] using h
  have b1 := isCol_bound hf.1
  have b2 := isCol_bound hf.2
  have z1 := sizeS_le c.fg
  have z2 := sizeS_le c.bg
  have z3 := sizeS_pos (v := c.fg) (by omega)
  have z4 := sizeS_pos (v := c.bg) (by omega)
  refine Does.go (args := [.agg c.rsty.toArray]) _ _ Try.func82 rfl Try.ntmps82 rfl rfl ?_
  refine Body.seq ?_
  refine Body.region ?_
  refine Ops.s (Stp.box (lk rfl) rfl (fun b1 => ?_)) rfl
  refine Ops.u (Dtu.asg (lk rfl)) rfl ?_
  refine Ops.nil ?_
  refine Then.next ?_
  refine Body.seq ?_
  refine Body.region ?_
  refine Ops.d (Det.lda Try.isAgg63 Try.sizeOf63 (lk rfl) (Rds.ow (m := 10) 0 rfl rfl) rfl) rfl ?_
  refine Ops.s (Stp.call rfl Try.call119 (lks rfl) (fun E' le hat => rflags_ok E' _ _ _ (by first | assumption | omega) (by first | assumption | omega)) ?_) rfl
  rintro _ _ ⟨rfl, rfl⟩
  refine Ops.s (Stp.buildSliceO Try.underlying32 ty5 (by decide) (by decide) (lkp rfl) rfl rfl rfl (by decide) (fun v6 => ?_)) rfl
  refine Ops.u (Dtu.asg (lk rfl)) rfl ?_
  refine Ops.nil ?_
  refine Then.next ?_
  refine Body.seq ?_
  refine Body.region ?_
  refine Ops.u (Dtu.mv (lk rfl)) rfl ?_
  refine Ops.u (Dtu.fld fa63_1 (lk rfl)) rfl ?_
  refine Ops.d (Det.ld Try.isAgg51 (lk rfl) (Rd.ow 1 rfl rfl)) rfl ?_
  refine Ops.u (Dtu.cvt Try.underlying51 Try.underlying75 (lk rfl) (wu64 (by omega) (by omega))) rfl ?_
  refine Ops.s (Stp.call rfl Try.call63 (lks rfl) (fun E' le hat => rput_ok E' _ (by omega) (by omega)) ?_) rfl
  rintro _ _ ⟨sp11, rfl, rfl⟩
  refine Ops.s (Stp.append 1 Try.underlying32 ty5 rfl rfl (lk rfl) (lk rfl) (Sl.osl 0 rfl) (by first | rfl | exact all_map (fun _ => rfl) _ | exact all_flat (fun _ => rfl) _) (by omega) (by omega) (fun v12 => ?_)) rfl
  refine Ops.u (Dtu.asg (lk rfl)) rfl ?_
  refine Ops.nil ?_
  refine Then.next ?_
  refine Body.seq ?_
  refine Body.region ?_
  refine Ops.u (Dtu.mv (lk rfl)) rfl ?_
  refine Ops.u (Dtu.fld fa63_2 (lk rfl)) rfl ?_
  refine Ops.d (Det.ld Try.isAgg51 (lk rfl) (Rd.ow 2 rfl rfl)) rfl ?_
  refine Ops.u (Dtu.cvt Try.underlying51 Try.underlying75 (lk rfl) (wu64 (by omega) (by omega))) rfl ?_
  refine Ops.s (Stp.call rfl Try.call63 (lks rfl) (fun E' le hat => rput_ok E' _ (by omega) (by omega)) ?_) rfl
  rintro _ _ ⟨sp17, rfl, rfl⟩
  refine Ops.s (Stp.append 2 Try.underlying32 ty5 rfl rfl (lk rfl) (lk rfl) (Sl.osl 0 rfl) (by first | rfl | exact all_map (fun _ => rfl) _ | exact all_flat (fun _ => rfl) _) (by omega) (by omega) (fun v18 => ?_)) rfl
  refine Ops.u (Dtu.asg (lk rfl)) rfl ?_
  refine Ops.nil ?_
  refine Then.next ?_
  refine Body.ret ?_
  exact ⟨.inr rfl, _, pk [2] rfl, v18, by unfold Cell.styleN; omega, rfl, by simp [Cell.styleB, Cell.styleN]⟩
theorem as16_ok (E : Env) (fl fg bg : Int) (h0 : 0 ≤ fl) (h1 : fl < 256) : Does Try.prog 76 #[.agg #[.int .u8 fl, .int .u32 fg, .int .u32 bg]] E [] fun r H' => r = .agg #[.bool (bit8 fl 0), .bool (bit8 fl 1), .bool (bit8 fl 2), .bool (bit8 fl 3), .bool (bit8 fl 4), .bool (bit8 fl 5), .bool (bit8 fl 6), .bool (bit8 fl 7), .int .u32 fg, .int .u32 bg] ∧ H' = [] := by
  refine Does.go (args := [.agg #[.int .u8 fl, .int .u32 fg, .int .u32 bg]]) _ _ Try.func76 rfl Try.ntmps76 rfl rfl ?_
  refine Body.seq ?_
  refine Body.region ?_
  refine Ops.s (Stp.box (lk rfl) rfl (fun b1 => ?_)) rfl
  refine Ops.s (Stp.alloc ty63 (fun b2 => ?_)) rfl
  refine Ops.nil ?_
  refine Then.next ?_
  refine Body.seq ?_
  refine Body.region ?_
  refine Ops.u (Dtu.fld fa53_0 (lk rfl)) rfl ?_
  refine Ops.d (Det.ld Try.isAgg5 (lk rfl) (Rd.ow 1 rfl rfl)) rfl ?_
  refine Ops.u (Dtu.fld fa53_1 (lk rfl)) rfl ?_
  refine Ops.d (Det.ld Try.isAgg51 (lk rfl) (Rd.ow 1 rfl rfl)) rfl ?_
  refine Ops.u (Dtu.fld fa53_2 (lk rfl)) rfl ?_
  refine Ops.d (Det.ld Try.isAgg51 (lk rfl) (Rd.ow 1 rfl rfl)) rfl ?_
  refine Ops.s (Stp.call rfl Try.call117 (lks rfl) (fun E' le hat => rof_ok E' _ _ _ (by first | assumption | omega) (by first | assumption | omega)) ?_) rfl
  rintro _ _ ⟨rfl, rfl⟩
  refine Ops.e (Stp.store 0 Try.sizeOf63 (lk rfl) (lk rfl) rfl rfl rfl rfl rfl rfl rfl ?_)
  refine Ops.nil ?_
  refine Then.next ?_
  refine Body.ret ?_
  exact ⟨.inr rfl, _, Loads.agg Try.isAgg63 Try.sizeOf63 (Rds.ow (m := 10) 0 rfl rfl) rfl, _, pk [] rfl, rfl, rfl⟩
theorem cell17_ok (E : Env) (pt fl fg bg : Int) (h0 : 0 ≤ fl) (h1 : fl < 256) : Does Try.prog 32 #[.agg #[.int .i32 pt, .int .u8 fl, .int .u32 fg, .int .u32 bg]] E [] fun r H' => r = .agg (.int .i32 pt :: rsty fl fg bg).toArray ∧ H' = [] := by
  refine Does.go (args := [.agg #[.int .i32 pt, .int .u8 fl, .int .u32 fg, .int .u32 bg]]) _ _ Try.func32 rfl Try.ntmps32 rfl rfl ?_
  refine Body.seq ?_
  refine Body.region ?_
  refine Ops.s (Stp.box (lk rfl) rfl (fun b1 => ?_)) rfl
  refine Ops.s (Stp.alloc ty65 (fun b2 => ?_)) rfl
  refine Ops.nil ?_
  refine Then.next ?_
  refine Body.seq ?_
  refine Body.draw mixed ?_
  refine AB.u 0 rfl (by decide +kernel) (Dtu.fld fa55_0 (lk rfl)) rfl ?_
  refine AB.d 1 rfl (by decide +kernel) rfl (Det.ld Try.isAgg21 (lk rfl) (Rd.ow 1 rfl rfl)) rfl ?_
  refine AB.u 2 rfl (by decide +kernel) (Dtu.fld fa55_1 (lk rfl)) rfl ?_
  refine AB.d 3 rfl (by decide +kernel) rfl (Det.lda Try.isAgg53 Try.sizeOf53 (lk rfl) (Rds.ow (m := 3) 1 rfl rfl) rfl) rfl ?_
  refine AB.s 4 rfl (by decide +kernel) (by decide +kernel) (Stp.call rfl Try.call76 (lks rfl) (fun E' le hat => as16_ok E' _ _ _ (by first | assumption | omega) (by first | assumption | omega)) ?_) rfl
  rintro _ _ ⟨rfl, rfl⟩
  refine AB.u 5 rfl (by decide +kernel) (Dtu.build ty65 pl65 (lkp rfl) rfl rfl) rfl ?_
  refine AB.e 6 rfl (by decide +kernel) (by decide +kernel) (Stp.store 0 Try.sizeOf65 (lk rfl) (lk rfl) rfl rfl rfl rfl rfl rfl rfl ?_)
  refine AB.done (by decide +kernel) ?_
  refine Then.next ?_
  refine Body.ret ?_
  exact ⟨.inr rfl, _, Loads.agg Try.isAgg65 Try.sizeOf65 (Rds.ow (m := 11) 0 rfl rfl) rfl, _, pk [] rfl, rfl, rfl⟩
theorem risCell_ok (E : Env) (c : Cell) (h : 0 ≤ c.fg ∧ c.fg < 4294967296 ∧ 0 ≤ c.bg ∧ c.bg < 4294967296) : Does Try.prog 36 #[.agg c.renc.toArray] E [] fun r H' => r = .bool c.ok ∧ H' = [] := by
  obtain ⟨f0, f1, g0, g1⟩ := h
  refine Does.go (args := [.agg c.renc.toArray]) _ _ Try.func36 rfl Try.ntmps36 rfl rfl ?_
  refine Body.seq ?_
  refine Body.region ?_
  refine Ops.s (Stp.box (lk rfl) rfl (fun b1 => ?_)) rfl
  refine Ops.u (Dtu.asg (lk rfl)) rfl ?_
  refine Ops.nil ?_
  refine Then.next ?_
  refine Body.seq ?_
  refine Body.region ?_
  refine Ops.u (Dtu.fld fa65_0 (lk rfl)) rfl ?_
  refine Ops.d (Det.ld Try.isAgg21 (lk rfl) (Rd.ow 0 rfl rfl)) rfl ?_
  refine Ops.s (Stp.call rfl Try.call80 (lks rfl) (fun E' le hat => ris_ok E' _) ?_) rfl
  rintro _ _ ⟨rfl, rfl⟩
  refine Ops.u (Dtu.mv (lk rfl)) rfl ?_
  refine Ops.dec 6 rfl (fun c6 => ?_) (fun c6 => ?_)
  · refine Ops.gu rfl rfl rfl (Dtu.fld fa65_1 (lk rfl)) rfl ?_
    refine Ops.gd rfl rfl rfl (Det.lda Try.isAgg63 Try.sizeOf63 (lk rfl) (Rds.ow (m := 10) 0 rfl rfl) rfl) rfl ?_
    refine Ops.gs rfl rfl rfl (Stp.call rfl Try.call81 (lks rfl) (fun E' le hat => rstyRight_ok E' _ _ _ (by first | assumption | omega) (by first | assumption | omega) (by first | assumption | omega) (by first | assumption | omega)) ?_) rfl
    rintro _ _ ⟨rfl, rfl⟩
    refine Ops.u (Dtu.pickT (lk rfl) (lk rfl)) rfl ?_
    refine Ops.u (Dtu.asg (lk rfl)) rfl ?_
    refine Ops.nil ?_
    refine Then.next ?_
    refine Body.ret ?_
    (refine ⟨.inr rfl, _, pk [] rfl, bool_eq ?_, rfl⟩; simp [okCell, *])
  · refine Ops.gn rfl rfl rfl rfl rfl ?_
    refine Ops.gn rfl rfl rfl rfl rfl ?_
    refine Ops.gn rfl rfl rfl rfl rfl ?_
    refine Ops.u (Dtu.pickF (lk rfl) (lk rfl)) rfl ?_
    refine Ops.u (Dtu.asg (lk rfl)) rfl ?_
    refine Ops.nil ?_
    refine Then.next ?_
    refine Body.ret ?_
    (refine ⟨.inr rfl, _, pk [] rfl, bool_eq ?_, rfl⟩; simp [okCell, *])
theorem rputCell_ok (E : Env) (c : Cell) (hi : 0 ≤ c.fl ∧ c.fl < 256) (h : c.ok = true) : Does Try.prog 37 #[.agg c.renc.toArray] E [] fun r H' => ∃ s, (4 ≤ c.size ∧ c.size ≤ 25) ∧ r = s ∧ H' = [osl 5 1 s c.size (c.bytes.map (.int .u8))] := by
  have hf : isPt c.pt = true ∧ c.okStyle = true := by simpa [Cell.ok, okCell] using h
  have b1 := isPt_bound hf.1
  have hs := hf.2
  have z1 := sizeS_le c.pt
  have z3 := sizeS_pos (v := c.pt) (by omega)
  refine Does.go (args := [.agg c.renc.toArray]) _ _ Try.func37 rfl Try.ntmps37 rfl rfl ?_
  refine Body.seq ?_
  refine Body.region ?_
  refine Ops.s (Stp.box (lk rfl) rfl (fun b1 => ?_)) rfl
  refine Ops.u (Dtu.asg (lk rfl)) rfl ?_
  refine Ops.nil ?_
  refine Then.next ?_
  refine Body.seq ?_
  refine Body.draw mixed ?_
  refine AB.u 0 rfl (by decide +kernel) (Dtu.fld fa65_1 (lk rfl)) rfl ?_
  refine AB.d 1 rfl (by decide +kernel) rfl (Det.lda Try.isAgg63 Try.sizeOf63 (lk rfl) (Rds.ow (m := 10) 0 rfl rfl) rfl) rfl ?_
  refine AB.u 3 rfl (by decide +kernel) (Dtu.fld fa65_0 (lk rfl)) rfl ?_
  refine AB.d 4 rfl (by decide +kernel) rfl (Det.ld Try.isAgg21 (lk rfl) (Rd.ow 0 rfl rfl)) rfl ?_
  refine AB.u 5 rfl (by decide +kernel) (Dtu.cvt Try.underlying21 Try.underlying75 (lk rfl) (wu64 (by omega) (by omega))) rfl ?_
  refine AB.s 2 rfl (by decide +kernel) (by decide +kernel) (Stp.call rfl Try.call82 (lks rfl) (fun E' le hat => rwriteS_ok E' _ (by first | assumption | (constructor <;> omega)) (by assumption)) ?_) rfl
  rintro _ _ ⟨s5, hz5, rfl, rfl⟩
  refine AB.s 6 rfl (by decide +kernel) (by decide +kernel) (Stp.call rfl Try.call63 (lks rfl) (fun E' le hat => rput_ok E' _ (by omega) (by omega)) ?_) rfl
  rintro _ _ ⟨sp9, rfl, rfl⟩
  refine AB.s 7 rfl (by decide +kernel) (by decide +kernel) (Stp.append 1 Try.underlying32 ty5 rfl rfl (lk rfl) (lk rfl) (Sl.osl 0 rfl) (by first | rfl | exact all_map (fun _ => rfl) _ | exact all_flat (fun _ => rfl) _) (by omega) (by omega) (fun v10 => ?_)) rfl
  refine AB.u 8 rfl (by decide +kernel) (Dtu.asg (lk rfl)) rfl ?_
  refine AB.done (by decide +kernel) ?_
  refine Then.next ?_
  refine Body.ret ?_
  exact ⟨.inr rfl, _, pk [1] rfl, v10, by unfold Cell.size; omega, rfl, by simp [Cell.bytes, Cell.size]⟩
end Go.Proofs.Ytijjjdljdjnbaaa
