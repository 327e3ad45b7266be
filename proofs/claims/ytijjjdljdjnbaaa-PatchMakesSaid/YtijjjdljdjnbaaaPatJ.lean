/- Patches: the fixed calls of longlinelaw21.alive. -/
import Derived.Test.YtijjjdljdjnbaaaPatI
import Derived.Test.YtijjjdljdjnbaaaAlive20
namespace Go.Proofs.Ytijjjdljdjnbaaa
set_option maxRecDepth 100000
set_option linter.unusedVariables false
set_option linter.unusedSimpArgs false
open Go.Sx

theorem first_ok' : View.first.ok = true := by decide +kernel
theorem first_dif : difB View.first View.first = [1, 1, 0, 0, 1] := by decide +kernel
theorem first_app : applyV View.first [1, 1, 0, 0, 1] = some View.first := by rw [← first_dif]; exact applyV_dif first_ok' first_ok'
theorem five_byt : Byt [1, 1, 0, 0, 1] := BytM.byt (by unfold BytM; decide)
theorem first_fl : ∀ c ∈ View.first.cells, c.Fl := by
  intro c hc
  have : c = ⟨32, 0, 0, 0⟩ := by simpa [View.first] using hc
  rw [this]; exact ⟨by decide, by decide⟩
theorem diff_first (E : Env) (s : Value) (h : View.first.has E [] s) : Does Try.prog 17 #[View.first.val s, View.first.val s] E [] fun r H' => ∃ s', r = .tuple #[s', .int .i64 0] ∧ H' = [osl 5 1 s' 5 (([1, 1, 0, 0, 1] : List Int).map (.int .u8))] := by
  have := diff_ok E View.first View.first s s h h first_ok' first_ok'
  rw [first_dif] at this
  exact this
theorem apply_first (E : Env) (s b : Value) (h : View.first.has E [] s) (hb : Sl E [] 1 b 5 (([1, 1, 0, 0, 1] : List Int).map (.int .u8))) : Does Try.prog 20 #[View.first.val s, b] E [] fun r H' => ∃ s, r = .tuple #[View.first.val s, .int .i64 0] ∧ H' = [osl 55 4 s 1 (View.first.cells.flatMap Cell.enc)] := by
  have := apply_ok E View.first s b [1, 1, 0, 0, 1] h hb five_byt (by decide) first_fl
  rw [first_app] at this
  exact this
theorem apply_nil (E : Env) (s : Value) (h : View.first.has E [] s) : Does Try.prog 20 #[View.first.val s, .slice none 0 0] E [] fun r H' => r = .tuple #[View.none.val (.slice none 0 0), .int .i64 3] ∧ H' = [] := by
  have := apply_ok E View.first s (.slice none 0 0) [] h (slNone E 1) (fun i hi => by simp at hi) (by decide) first_fl
  have e : applyV View.first [] = none := by decide +kernel
  rw [e] at this
  exact this
theorem runs_five (E : Env) (b : Value) (hb : Sl E [] 1 b 5 (([1, 1, 0, 0, 1] : List Int).map (.int .u8))) : Does Try.prog 22 #[b] E [] fun r H' => r = .tuple #[.int .i64 0, .int .i64 0] ∧ H' = [] := by
  have := runsC_ok E b [1, 1, 0, 0, 1] hb five_byt (by decide)
  have e1 : runsK [1, 1, 0, 0, 1] = 0 := by decide +kernel
  have e2 : runsE [1, 1, 0, 0, 1] = 0 := by decide +kernel
  rw [e1, e2] at this
  exact this
theorem alive21_ok (E : Env) : Does Try.prog 15 #[] E [] fun r H' => r = .bool true ∧ H' = [] := by
  refine Does.go (args := []) _ _ Try.func15 rfl Try.ntmps15 rfl rfl ?_
  have hstr : (strOfNums [1, 1, 0, 0, 1]).toList = ({ data := #[1, 1, 0, 0, 1] } : ByteArray).toList := congrArg ByteArray.toList rfl
  refine Body.seq ?_
  refine Body.region ?_
  refine Ops.u (Dtu.asg (lk rfl)) rfl ?_
  refine Ops.nil ?_
  refine Then.next ?_
  refine Body.seq ?_
  refine Body.region ?_
  refine Ops.s (Stp.call rfl Try.call57 (lks rfl) (fun E' le hat => first_ok E') ?_) rfl
  rintro _ _ ⟨s10, rfl, rfl⟩
  refine Ops.s (Stp.alloc ty24 (fun b1 => ?_)) rfl
  refine Ops.pure (Sl.isSl (Sl.osl 1 rfl)) fun h10 => ?_
  obtain ⟨a10, m10, c10, rfl⟩ := h10
  refine Ops.e (Stp.store 0 Try.sizeOf24 (lk rfl) (lk rfl) rfl rfl rfl rfl rfl rfl rfl ?_)
  refine Ops.nil ?_
  refine Then.next ?_
  refine Body.seq ?_
  refine Body.region ?_
  refine Ops.d (Det.lda Try.isAgg24 Try.sizeOf24 (lk rfl) (Rds.ow (m := 6) 0 rfl rfl) rfl) rfl ?_
  refine Ops.d (Det.lda Try.isAgg24 Try.sizeOf24 (lk rfl) (Rds.ow (m := 6) 0 rfl rfl) rfl) rfl ?_
  refine Ops.s (Stp.call rfl Try.call17 (lks rfl) (fun E' le hat => diff_first E' _ (Sl.at (hat _ (.tail _ (.head _))))) ?_) rfl
  rintro _ _ ⟨s14, rfl, rfl⟩
  refine Ops.u (Dtu.mv (lk rfl)) rfl ?_
  refine Ops.u (Dtu.ext (lk rfl) rfl) rfl ?_
  refine Ops.u (Dtu.ext (lk rfl) rfl) rfl ?_
  refine Ops.u (Dtu.asg (lk rfl)) rfl ?_
  refine Ops.u (Dtu.asg (lk rfl)) rfl ?_
  refine Ops.nil ?_
  refine Then.next ?_
  refine Body.seq ?_
  refine Body.region ?_
  refine Ops.d (Det.lda Try.isAgg24 Try.sizeOf24 (lk rfl) (Rds.ow (m := 6) 1 rfl rfl) rfl) rfl ?_
  refine Ops.u (Dtu.mv (lk rfl)) rfl ?_
  refine Ops.s (Stp.call rfl Try.call20 (lks rfl) (fun E' le hat => apply_first E' _ _ (Sl.at (hat _ (.tail _ (.tail _ (.head _))))) (Sl.at (hat _ (.head _)))) ?_) rfl
  rintro _ _ ⟨s20, rfl, rfl⟩
  refine Ops.u (Dtu.mv (lk rfl)) rfl ?_
  refine Ops.u (Dtu.ext (lk rfl) rfl) rfl ?_
  refine Ops.u (Dtu.ext (lk rfl) rfl) rfl ?_
  refine Ops.s (Stp.alloc ty24 (fun b4 => ?_)) rfl
  refine Ops.pure (Sl.isSl (Sl.osl 1 rfl)) fun h20 => ?_
  obtain ⟨a20, m20, c20, rfl⟩ := h20
  refine Ops.e (Stp.store 0 Try.sizeOf24 (lk rfl) (lk rfl) rfl rfl rfl rfl rfl rfl rfl ?_)
  refine Ops.u (Dtu.asg (lk rfl)) rfl ?_
  refine Ops.nil ?_
  refine Then.next ?_
  refine Body.seq ?_
  refine Body.region ?_
  refine Ops.u (Dtu.mv (lk rfl)) rfl ?_
  refine Ops.s (Stp.call rfl Try.call22 (lks rfl) (fun E' le hat => runs_five E' _ (Sl.at (hat _ (.tail _ (.tail _ (.head _)))))) ?_) rfl
  rintro _ _ ⟨rfl, rfl⟩
  refine Ops.u (Dtu.mv (lk rfl)) rfl ?_
  refine Ops.u (Dtu.ext (lk rfl) rfl) rfl ?_
  refine Ops.u (Dtu.ext (lk rfl) rfl) rfl ?_
  refine Ops.u (Dtu.asg (lk rfl)) rfl ?_
  refine Ops.u (Dtu.asg (lk rfl)) rfl ?_
  refine Ops.nil ?_
  refine Then.next ?_
  refine Body.seq ?_
  refine Body.region ?_
  refine Ops.d (Det.lda Try.isAgg24 Try.sizeOf24 (lk rfl) (Rds.ow (m := 6) 3 rfl rfl) rfl) rfl ?_
  refine Ops.s (Stp.call rfl Try.call20 (lks rfl) (fun E' le hat => apply_nil E' _ (Sl.at (hat _ (.tail _ (.tail _ (.tail _ (.tail _ (.head _)))))))) ?_) rfl
  rintro _ _ ⟨rfl, rfl⟩
  refine Ops.u (Dtu.mv (lk rfl)) rfl ?_
  refine Ops.u (Dtu.ext (lk rfl) rfl) rfl ?_
  refine Ops.u (Dtu.ext (lk rfl) rfl) rfl ?_
  refine Ops.s (Stp.alloc ty24 (fun b8 => ?_)) rfl
  refine Ops.e (Stp.store 0 Try.sizeOf24 (lk rfl) (lk rfl) rfl rfl rfl rfl rfl rfl rfl ?_)
  refine Ops.u (Dtu.asg (lk rfl)) rfl ?_
  refine Ops.nil ?_
  refine Then.next ?_
  refine Body.seq ?_
  refine Body.region ?_
  refine Ops.u (Dtu.mv (lk rfl)) rfl ?_
  refine Ops.d (Det.bstr Try.underlying32 Try.underlying5 Try.underlying9 (lk rfl) (Sl.osl 3 rfl)) rfl ?_
  refine Ops.u (Dtu.eqStr (lk rfl) (lk rfl)) rfl ?_
  refine Ops.u (Dtu.mv (lk rfl)) rfl ?_
  refine Ops.decP 36 rfl (fun _ => ?_) (fun hn => absurd (by first | omega | assumption | decide) hn)
  refine Ops.gu rfl rfl rfl (Dtu.mv (lk rfl)) rfl ?_
  refine Ops.gu rfl rfl rfl (Dtu.eql (lk rfl) (lk rfl)) rfl ?_
  refine Ops.u (Dtu.pickT (lk rfl) (lk rfl)) rfl ?_
  refine Ops.u (Dtu.mv (lk rfl)) rfl ?_
  refine Ops.decP 40 rfl (fun _ => ?_) (fun hn => absurd (by first | omega | assumption | decide) hn)
  refine Ops.gu rfl rfl rfl (Dtu.mv (lk rfl)) rfl ?_
  refine Ops.gu rfl rfl rfl (Dtu.eql (lk rfl) (lk rfl)) rfl ?_
  refine Ops.u (Dtu.pickT (lk rfl) (lk rfl)) rfl ?_
  refine Ops.u (Dtu.mv (lk rfl)) rfl ?_
  refine Ops.decP 44 rfl (fun _ => ?_) (fun hn => absurd (by first | omega | assumption | decide) hn)
  refine Ops.gd rfl rfl rfl (Det.lda Try.isAgg24 Try.sizeOf24 (lk rfl) (Rds.ow (m := 6) 4 rfl rfl) rfl) rfl ?_
  refine Ops.gd rfl rfl rfl (Det.lda Try.isAgg24 Try.sizeOf24 (lk rfl) (Rds.ow (m := 6) 1 rfl rfl) rfl) rfl ?_
  refine Ops.gs rfl rfl rfl (Stp.call rfl Try.call26 (lks rfl) (fun E' le hat => same_ok E' View.first View.first (.slice a10 m10 c10) (.slice a20 m20 c20) (Sl.at (hat _ (.tail _ (.tail _ (.tail _ (.tail _ (.tail _ (.head _)))))))) (Sl.at (hat _ (.tail _ (.tail _ (.head _)))))) ?_) rfl
  rintro _ _ ⟨rfl, rfl⟩
  refine Ops.u (Dtu.pickT (lk rfl) (lk rfl)) rfl ?_
  refine Ops.u (Dtu.mv (lk rfl)) rfl ?_
  refine Ops.decP 49 rfl (fun _ => ?_) (fun hn => absurd (by first | omega | assumption | decide) hn)
  refine Ops.gu rfl rfl rfl (Dtu.mv (lk rfl)) rfl ?_
  refine Ops.gu rfl rfl rfl (Dtu.eql (lk rfl) (lk rfl)) rfl ?_
  refine Ops.u (Dtu.pickT (lk rfl) (lk rfl)) rfl ?_
  refine Ops.u (Dtu.mv (lk rfl)) rfl ?_
  refine Ops.decP 53 rfl (fun _ => ?_) (fun hn => absurd (by first | omega | assumption | decide) hn)
  refine Ops.gu rfl rfl rfl (Dtu.mv (lk rfl)) rfl ?_
  refine Ops.gu rfl rfl rfl (Dtu.eql (lk rfl) (lk rfl)) rfl ?_
  refine Ops.u (Dtu.pickT (lk rfl) (lk rfl)) rfl ?_
  refine Ops.u (Dtu.mv (lk rfl)) rfl ?_
  refine Ops.decP 57 rfl (fun _ => ?_) (fun hn => absurd (by first | omega | assumption | decide) hn)
  refine Ops.gu rfl rfl rfl (Dtu.mv (lk rfl)) rfl ?_
  refine Ops.gu rfl rfl rfl (Dtu.eql (lk rfl) (lk rfl)) rfl ?_
  refine Ops.u (Dtu.pickT (lk rfl) (lk rfl)) rfl ?_
  refine Ops.u (Dtu.asg (lk rfl)) rfl ?_
  refine Ops.nil ?_
  refine Then.next ?_
  refine Body.ret ?_
  exact ⟨.inr rfl, _, pk [] rfl, rfl, rfl⟩
end Go.Proofs.Ytijjjdljdjnbaaa
