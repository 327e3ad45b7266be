/- What comes of the fixed calls of longlinelaw20. -/
import Derived.Test.YtijjjdljdjnbaaaRead
namespace Go.Proofs.Ytijjjdljdjnbaaa
set_option maxRecDepth 100000
set_option linter.unusedVariables false
set_option linter.unusedSimpArgs false
open Go.Sx

theorem first_fine : View.first.ok = true := by decide +kernel
theorem none_bad : View.none.ok = false := by decide +kernel
theorem first_bytes : View.first.bytes = [1, 1, 0, 0, 1, 1, 0, 0, 0, 32] := by decide +kernel
theorem first_read : readV [1, 1, 0, 0, 1, 1, 0, 0, 0, 32] = some View.first := by decide +kernel
theorem first_byt : Byt [1, 1, 0, 0, 1, 1, 0, 0, 0, 32] := BytM.byt (by unfold BytM; decide)
theorem write_first (E : Env) (s : Value) (h : View.first.has E [] s) : Does Try.prog 28 #[View.first.val s] E [] fun r H' => ∃ s, r = .tuple #[s, .int .i64 0] ∧ H' = [osl 5 1 s 10 (([1, 1, 0, 0, 1, 1, 0, 0, 0, 32] : List Int).map (.int .u8))] := by
  have := write_ok E View.first s h first_fine
  rw [first_bytes] at this
  exact this
theorem slNone (E : Env) (sz : Nat) : Sl E [] sz (.slice none 0 0) 0 [] := fun w s => ⟨by simp, by decide, .inl ⟨rfl, none, 0, rfl, by decide⟩⟩
theorem write_none (E : Env) : Does Try.prog 28 #[View.none.val (.slice none 0 0)] E [] fun r H' => r = .tuple #[.slice none 0 0, .int .i64 3] ∧ H' = [] := write_no E View.none _ (slNone E 4) none_bad
theorem read_first (E : Env) (b : Value) (h : Sl E [] 1 b 10 (([1, 1, 0, 0, 1, 1, 0, 0, 0, 32] : List Int).map (.int .u8))) : Does Try.prog 29 #[b] E [] fun r H' => ∃ s, r = .tuple #[View.first.val s, .int .i64 0] ∧ H' = [osl 55 4 s 1 (View.first.cells.flatMap Cell.enc)] := by
  have := read_ok E b [1, 1, 0, 0, 1, 1, 0, 0, 0, 32] h first_byt
  rw [first_read] at this
  exact this
theorem alive20_ok (E : Env) : Does Try.prog 27 #[] E [] fun r H' => r = .bool true ∧ H' = [] := by
  refine Does.go (args := []) _ _ Try.func27 rfl Try.ntmps27 rfl rfl ?_
  refine Body.seq ?_
  refine Body.region ?_
  refine Ops.u (Dtu.asg (lk rfl)) rfl ?_
  refine Ops.nil ?_
  refine Then.next ?_
  refine Body.seq ?_
  refine Body.region ?_
  refine Ops.s (Stp.call rfl Try.call57 (lks rfl) (fun E' le hat => first_ok E') ?_) rfl
  rintro _ _ ⟨s10, rfl, rfl⟩
  refine Ops.s (Stp.call rfl Try.call28 (lks rfl) (fun E' le hat => write_first E' _ (Sl.at (hat _ (.head _)))) ?_) rfl
  rintro _ _ ⟨s11, rfl, rfl⟩
  refine Ops.u (Dtu.mv (lk rfl)) rfl ?_
  refine Ops.u (Dtu.ext (lk rfl) rfl) rfl ?_
  refine Ops.u (Dtu.ext (lk rfl) rfl) rfl ?_
  refine Ops.u (Dtu.asg (lk rfl)) rfl ?_
  refine Ops.u (Dtu.asg (lk rfl)) rfl ?_
  refine Ops.nil ?_
  refine Then.next ?_
  refine Body.seq ?_
  refine Body.region ?_
  refine Ops.u (Dtu.mv (lk rfl)) rfl ?_
  refine Ops.s (Stp.call rfl Try.call29 (lks rfl) (fun E' le hat => read_first E' _ (by first | exact Sl.mono (by assumption) le | exact Sl.at (hat _ (.head _)) | exact Sl.at (hat _ (.tail _ (.head _))) | exact Sl.at (hat _ (.tail _ (.tail _ (.head _)))) | exact Sl.at (hat _ (.tail _ (.tail _ (.tail _ (.head _))))) | exact Sl.at (hat _ (.tail _ (.tail _ (.tail _ (.tail _ (.head _)))))) | exact Sl.at (hat _ (.tail _ (.tail _ (.tail _ (.tail _ (.tail _ (.head _))))))))) ?_) rfl
  rintro _ _ ⟨s16, rfl, rfl⟩
  refine Ops.u (Dtu.mv (lk rfl)) rfl ?_
  refine Ops.u (Dtu.ext (lk rfl) rfl) rfl ?_
  refine Ops.u (Dtu.ext (lk rfl) rfl) rfl ?_
  refine Ops.s (Stp.alloc ty24 (fun b3 => ?_)) rfl
  refine Ops.pure (Sl.isSl (Sl.osl 1 rfl)) fun h16 => ?_
  obtain ⟨a16, m16, c16, rfl⟩ := h16
  refine Ops.e (Stp.store 0 Try.sizeOf24 (lk rfl) (lk rfl) rfl rfl rfl rfl rfl rfl rfl ?_)
  refine Ops.u (Dtu.asg (lk rfl)) rfl ?_
  refine Ops.nil ?_
  refine Then.next ?_
  refine Body.seq ?_
  refine Body.region ?_
  refine Ops.u (Dtu.build ty24 pl24 (lkp rfl) rfl rfl) rfl ?_
  refine Ops.s (Stp.call rfl Try.call28 (lks rfl) (fun E' le hat => write_none E') ?_) rfl
  rintro _ _ ⟨rfl, rfl⟩
  have hstr : (strOfNums [1, 1, 0, 0, 1, 1, 0, 0, 0, 32]).toList = ({ data := #[1, 1, 0, 0, 1, 1, 0, 0, 0, 32] } : ByteArray).toList := congrArg ByteArray.toList rfl
  refine Ops.u (Dtu.mv (lk rfl)) rfl ?_
  refine Ops.u (Dtu.ext (lk rfl) rfl) rfl ?_
  refine Ops.u (Dtu.ext (lk rfl) rfl) rfl ?_
  refine Ops.u (Dtu.asg (lk rfl)) rfl ?_
  refine Ops.u (Dtu.asg (lk rfl)) rfl ?_
  refine Ops.nil ?_
  refine Then.next ?_
  refine Body.seq ?_
  refine Body.region ?_
  refine Ops.s (Stp.call rfl Try.call72 (lks rfl) (fun E' le hat => of_nil E') ?_) rfl
  rintro _ _ ⟨rfl, rfl⟩
  refine Ops.u (Dtu.mv (lk rfl)) rfl ?_
  refine Ops.u (Dtu.ext (lk rfl) rfl) rfl ?_
  refine Ops.u (Dtu.ext (lk rfl) rfl) rfl ?_
  refine Ops.s (Stp.alloc ty24 (fun b7 => ?_)) rfl
  refine Ops.e (Stp.store 0 Try.sizeOf24 (lk rfl) (lk rfl) rfl rfl rfl rfl rfl rfl rfl ?_)
  refine Ops.u (Dtu.asg (lk rfl)) rfl ?_
  refine Ops.nil ?_
  refine Then.next ?_
  refine Body.seq ?_
  refine Body.draw mixed ?_
  refine AB.u 0 rfl (by decide +kernel) (Dtu.mv (lk rfl)) rfl ?_
  refine AB.d 1 rfl (by decide +kernel) rfl (Det.bstr Try.underlying32 Try.underlying5 Try.underlying9 (lk rfl) (Sl.osl 3 rfl)) rfl ?_
  refine AB.u 2 rfl (by decide +kernel) (Dtu.eqStr (lk rfl) (lk rfl)) rfl ?_
  refine AB.u 3 rfl (by decide +kernel) (Dtu.mv (lk rfl)) rfl ?_
  refine AB.decP 31 rfl (fun _ => ?_) (fun hn => absurd (by first | omega | assumption | decide) hn)
  refine AB.gu 4 rfl (by decide +kernel) rfl rfl rfl (Dtu.mv (lk rfl)) rfl ?_
  refine AB.gu 5 rfl (by decide +kernel) rfl rfl rfl (Dtu.eql (lk rfl) (lk rfl)) rfl ?_
  refine AB.u 6 rfl (by decide +kernel) (Dtu.pickT (lk rfl) (lk rfl)) rfl ?_
  refine AB.u 7 rfl (by decide +kernel) (Dtu.mv (lk rfl)) rfl ?_
  refine AB.decP 35 rfl (fun _ => ?_) (fun hn => absurd (by first | omega | assumption | decide) hn)
  refine AB.gu 8 rfl (by decide +kernel) rfl rfl rfl (Dtu.mv (lk rfl)) rfl ?_
  refine AB.gu 9 rfl (by decide +kernel) rfl rfl rfl (Dtu.eql (lk rfl) (lk rfl)) rfl ?_
  refine AB.u 10 rfl (by decide +kernel) (Dtu.pickT (lk rfl) (lk rfl)) rfl ?_
  refine AB.u 11 rfl (by decide +kernel) (Dtu.mv (lk rfl)) rfl ?_
  refine AB.decP 39 rfl (fun _ => ?_) (fun hn => absurd (by first | omega | assumption | decide) hn)
  refine AB.gd 12 rfl (by decide +kernel) rfl rfl rfl rfl (Det.lda Try.isAgg24 Try.sizeOf24 (lk rfl) (Rds.ow (m := 6) 1 rfl rfl) rfl) rfl ?_
  refine AB.gs 13 rfl (by decide +kernel) (by decide +kernel) rfl rfl rfl (Stp.call rfl Try.call57 (lks rfl) (fun E' le hat => first_ok E') ?_) rfl
  rintro _ _ ⟨s41, rfl, rfl⟩
  refine AB.gs 14 rfl (by decide +kernel) (by decide +kernel) rfl rfl rfl (Stp.call rfl Try.call26 (lks rfl) (fun E' le hat => same_ok E' View.first View.first (.slice a16 m16 c16) s41 (Sl.at (hat _ (.tail _ (.tail _ (.tail _ (.head _)))))) (Sl.at (hat _ (.head _)))) ?_) rfl
  rintro _ _ ⟨rfl, rfl⟩
  refine AB.u 15 rfl (by decide +kernel) (Dtu.pickT (lk rfl) (lk rfl)) rfl ?_
  refine AB.u 16 rfl (by decide +kernel) (Dtu.mv (lk rfl)) rfl ?_
  refine AB.decP 44 rfl (fun _ => ?_) (fun hn => absurd (by first | omega | assumption | decide) hn)
  refine AB.gu 17 rfl (by decide +kernel) rfl rfl rfl (Dtu.mv (lk rfl)) rfl ?_
  refine AB.gu 18 rfl (by decide +kernel) rfl rfl rfl (Dtu.eql (lk rfl) (lk rfl)) rfl ?_
  refine AB.u 19 rfl (by decide +kernel) (Dtu.pickT (lk rfl) (lk rfl)) rfl ?_
  refine AB.u 20 rfl (by decide +kernel) (Dtu.mv (lk rfl)) rfl ?_
  refine AB.decP 48 rfl (fun _ => ?_) (fun hn => absurd (by first | omega | assumption | decide) hn)
  refine AB.gu 21 rfl (by decide +kernel) rfl rfl rfl (Dtu.mv (lk rfl)) rfl ?_
  refine AB.gu 22 rfl (by decide +kernel) rfl rfl rfl (Dtu.eql (lk rfl) (lk rfl)) rfl ?_
  refine AB.u 23 rfl (by decide +kernel) (Dtu.pickT (lk rfl) (lk rfl)) rfl ?_
  refine AB.u 24 rfl (by decide +kernel) (Dtu.asg (lk rfl)) rfl ?_
  refine AB.done (by decide +kernel) ?_
  refine Then.next ?_
  refine Body.ret ?_
  exact ⟨.inr rfl, _, pk [] rfl, rfl, rfl⟩
end Go.Proofs.Ytijjjdljdjnbaaa
