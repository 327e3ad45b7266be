/- A view as an argument. -/
import Derived.Test.YtijjjdljdjnbaaaOpenV
namespace Go.Proofs.Ytijjjdljdjnbaaa
set_option maxRecDepth 100000
set_option linter.unusedVariables false
set_option linter.unusedSimpArgs false
open Go.Sx Go.ChangeShapes Go.RowKit Go.WideShapes

theorem open_view {H : Type} {enc : TypeId × Value → H} {W : World} {b0 : Nat} {v0 : Value} {d : DataW H} {p : List MemPlace} (hval : Value.okWide Try.prog W .any b0 24 v0) (h0 : DataW.Trod enc Try.prog W 0 (fun _ => true) true 24 v0 d p) :
    ∃ (v : View) (s : Value), v0 = v.val s ∧ v.has (envOf W) [] s ∧ ∀ c ∈ v.cells, c.In32 := by
  obtain ⟨cs, rfl, _⟩ := okWide_struct Try.underlying24 hval
  obtain ⟨n, h⟩ := h0
  have e : (Value.agg cs).cells.toList = cs.toList := rfl
  rw [e] at h
  have hl := lenT Try.underlying24 h
  rw [cells6_24] at hl
  obtain ⟨l⟩ := cs
  dsimp only at h hl
  match l, hl with
  | [v0, v1, v2, v3, v4, v5], _ =>
    obtain ⟨n0, y0, h0⟩ := fldT Try.underlying24 h 0 3 0 1 rfl rfl rfl cells1_3
    obtain ⟨n1, y1, h1⟩ := fldT Try.underlying24 h 1 3 1 1 rfl rfl rfl cells1_3
    obtain ⟨n2, y2, h2⟩ := fldT Try.underlying24 h 2 22 2 1 rfl rfl rfl cells1_22
    obtain ⟨n3, y3, h3⟩ := fldT Try.underlying24 h 3 3 3 1 rfl rfl rfl cells1_3
    obtain ⟨n4, y4, h4⟩ := fldT Try.underlying24 h 4 3 4 1 rfl rfl rfl cells1_3
    obtain ⟨n5, y5, h5⟩ := fldT Try.underlying24 h 5 4 5 1 rfl rfl rfl cells1_4
    obtain ⟨a0, e0, _, w0⟩ := DataW.trod_int Try.underlying3 h0
    obtain ⟨a1, e1, _, w1⟩ := DataW.trod_int Try.underlying3 h1
    obtain ⟨s, cells, e2, hs, hc⟩ := trod_cells h2
    obtain ⟨a3, e3, _, w3⟩ := DataW.trod_int Try.underlying3 h3
    obtain ⟨a4, e4, _, w4⟩ := DataW.trod_int Try.underlying3 h4
    obtain ⟨b5, e5, _⟩ := DataW.trod_bool Try.underlying4 h5
    simp at e0 e1 e2 e3 e4 e5
    subst e0 e1 e2 e3 e4 e5
    exact ⟨⟨a0, a1, cells, a3, a4, b5⟩, v2, rfl, hs, hc⟩
end Go.Proofs.Ytijjjdljdjnbaaa
