/- A cell as an argument. -/
import Derived.Test.YtijjjdljdjnbaaaOpenB
import Derived.Test.YtijjjdljdjnbaaaCellsW
namespace Go.Proofs.Ytijjjdljdjnbaaa
set_option maxRecDepth 100000
set_option linter.unusedVariables false
set_option linter.unusedSimpArgs false
open Go.Sx Go.ChangeShapes Go.RowKit Go.WideShapes

theorem open_cell {H : Type} {enc : TypeId × Value → H} {W : World} {b0 : Nat} {v0 : Value} {d : DataW H} {p : List MemPlace} (hval : Value.okWide Try.prog W .any b0 55 v0) (h0 : DataW.Trod enc Try.prog W 0 (fun _ => true) true 55 v0 d p) :
    ∃ (c : Cell), v0 = .agg c.enc.toArray ∧ c.In32 := by
  obtain ⟨cs, rfl, _⟩ := okWide_struct Try.underlying55 hval
  obtain ⟨n, h⟩ := h0
  have e : (Value.agg cs).cells.toList = cs.toList := rfl
  rw [e] at h
  obtain ⟨c, hc, hi⟩ := trod_cell h
  refine ⟨c, ?_, hi⟩
  rw [← hc]
end Go.Proofs.Ytijjjdljdjnbaaa
