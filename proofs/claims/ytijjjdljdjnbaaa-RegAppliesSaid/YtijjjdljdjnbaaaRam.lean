/- Qregapplies: RappliesP. -/
import Derived.Test.YtijjjdljdjnbaaaRaa
import Derived.Test.YtijjjdljdjnbaaaRab
import Derived.Test.YtijjjdljdjnbaaaRac
import Derived.Test.YtijjjdljdjnbaaaRad
import Derived.Test.YtijjjdljdjnbaaaRae
import Derived.Test.YtijjjdljdjnbaaaRaf
import Derived.Test.YtijjjdljdjnbaaaRag
import Derived.Test.YtijjjdljdjnbaaaRah
import Derived.Test.YtijjjdljdjnbaaaRai
import Derived.Test.YtijjjdljdjnbaaaRaj
import Derived.Test.YtijjjdljdjnbaaaRak
import Derived.Test.YtijjjdljdjnbaaaRal
section
/- 'Rows.RegAppliesSaid': longlinelaw22.RegApplies returns true, whatever state and bytes come in; they read as they did. -/
namespace Go.Proofs.Ytijjjdljdjnbaaa.regApplies
open Go.Sx Go.ChangeShapes Go.WideShapes Go.ChangeAt Go.RowKit
set_option linter.unusedVariables false

theorem own : ownKnob Try.prog.godebug = none := by kernel_rfl
theorem laidOut : laidOutB Try.prog = true := by kernel_rfl
theorem pars : (Try.f12.params.toList.all fun t => Try.prog.readableRec t && decide (t < Try.prog.types.size)) = true := by kernel_rfl

set_option maxRecDepth 100000 in
theorem lifted (os : Os) (started : os.Started) (H : Type) (enc : TypeId × Value → H) :
    ReturnsInHanded {} Try.checked os 12 .any (Rows.regAppliesSpec.pre6 enc Try.prog Try.f12 Rows.regAppliesRow.domain false) (Rows.regAppliesSpec.post enc Try.prog Try.f12 false true false false) := by
  refine returnsInHanded_of_change (C := Try.checked) own started (by kernel_rfl) Try.func12
    (ChangeSpec.witness6 (enc := enc) (C := Try.checked) false ⟨#[], #[.agg #[.int .i64 0, .int .i64 0, .slice none 0 0, .int .i64 0, .int .i64 0, .bool false, .string ⟨#[]⟩, .string ⟨#[]⟩, .int .u64 0, .int .u64 0], .slice none 0 0], []⟩ 8 (by kernel_rfl) (by kernel_rfl) (by kernel_rfl) (by kernel_rfl)) ?_
  intro W base args ds gs before hval0 hW hcnd _
  have hval : ∀ (j : Nat) t v, Try.f12.params[j]? = some t → args[j]? = some v → Value.okWide Try.prog W .any base t v := hval0
  have hW' := hW
  obtain ⟨p, q, hA0, hV, rfl, hfz, hnd⟩ := hW
  have hA : DataW.TrodAll enc Try.prog W 0 (fun _ => true) true Try.f12.params.toList args.toList ds p := hA0
  rw [Try.params12] at hA hval
  obtain ⟨v0, vs0, d0, ds0, p0, q0, hargs, rfl, rfl, h0, r0⟩ := trodAll_cons hA
  obtain ⟨v1, vs1, d1, ds1, p1, q1, rfl, rfl, rfl, h1, r1⟩ := trodAll_cons r0
  obtain ⟨rfl, rfl, rfl⟩ := trodAll_nil r1
  obtain rfl : args = #[v0, v1] := by cases args; simp_all
  obtain ⟨v, s, rfl, hs, fv, hc⟩ := open_state (hval 0 77 v0 rfl rfl) h0
  obtain ⟨a, ln, cp, rfl⟩ := okWide_slice Try.underlying32 (hval 1 32 v1 rfl rfl)
  obtain ⟨n1, h1'⟩ := h1
  obtain ⟨b, bs, eb, hb, hbt⟩ := trod_bytes (cs := [.slice a ln cp]) h1'
  obtain rfl : Value.slice a ln cp = b := by simpa using eb
  refine (sapplies_ok (envOf W) v s _ bs hs hb hbt fv (fun c h => (hc c h).Cols) W St.all).mono ?_
  rintro e W' ⟨r, H', rfl, ⟨rfl, rfl⟩, s'⟩
  refine ⟨_, rfl, post_of_below (tb := 4) rfl rfl rfl Try.underlying4 laidOut (fun t ht => ?_) hW' (below_of_St s')⟩
  · have := List.all_eq_true.1 pars t ht
    rw [Bool.and_eq_true, decide_eq_true_eq] at this
    exact this

theorem over : Rows.regAppliesRow.holds Try.pinned (OpenSpec.ofChange Rows.regAppliesSpec) :=
  OpenClaim.holds_of_wide 12 Try.f12 rfl rfl rfl rfl rfl rfl rfl ⟨rfl, rfl, rfl, rfl, rfl⟩ rfl rfl rfl rfl rfl (by kernel_rfl) Try.func12 (by kernel_rfl)
    (of_decide_eq_true (by kernel_rfl)) (by unfold Func.isWrapper; first | (rw [if_pos (by decide +kernel)]; kernel_rfl) | (rw [if_neg (by decide +kernel)]; exact ⟨rfl, rfl⟩))
    (fun os started H enc _ => lifted os started H enc)

theorem proved : Rows.RegAppliesSaid := over
end Go.Proofs.Ytijjjdljdjnbaaa.regApplies
end
