/- Bytes as an argument. -/
import Derived.Test.YtijjjdljdjnbaaaOpenW
import Derived.Test.YtijjjdljdjnbaaaBackW
namespace Go.Proofs.Ytijjjdljdjnbaaa
set_option maxRecDepth 100000
set_option linter.unusedVariables false
set_option linter.unusedSimpArgs false
open Go.Sx Go.ChangeShapes Go.RowKit Go.WideShapes
section
variable {H : Type} {enc : TypeId × Value → H} {W : World} {base : Nat} {held : Bool} {fuel : Nat} {cs : List Value} {x : DataW H × List MemPlace}
theorem trod_bytes (h : DataW.trod enc Try.prog W base (fun _ => true) held fuel 32 cs = some x) : ∃ (s : Value) (bs : List Int), cs = [s] ∧ Sl (envOf W) [] 1 s bs.length (bs.map (.int .u8)) ∧ Byt bs := by
  rcases Go.Deep.open_slice1 Try.underlying32 cells1_5 h with ⟨rfl, _⟩ | ⟨a, len, cap, m, n, V, D, Pl, rfl, hb, hl, hm, hmm, _, hx⟩
  · exact ⟨_, [], rfl, slNone _ 1, fun i hi => by simp at hi⟩
  · simp only [if_true] at hmm
    subst hmm
    have hc : ∀ i, i < m → ∃ c : Int, W.cell? (a.add i) = some (.int .u8 c) ∧ 0 ≤ c ∧ c < 256 := fun i hi => by
      obtain ⟨h1, h2⟩ := hx i hi
      obtain ⟨c, e, _, w0⟩ := DataW.trod_int Try.underlying5 h2
      have := bounds_u8 w0
      simp at e
      exact ⟨c, by rw [h1, e], by omega, by omega⟩
    have : ∃ f : Nat → Int, ∀ i, i < m → W.cell? (a.add i) = some (.int .u8 (f i)) ∧ 0 ≤ f i ∧ f i < 256 :=
      ⟨fun i => if h : i < m then Classical.choose (hc i h) else 0, fun i hi => by dsimp only; rw [dif_pos hi]; exact Classical.choose_spec (hc i hi)⟩
    obtain ⟨f, hf⟩ := this
    refine ⟨_, (List.range len).map f, rfl, ?_, ?_⟩
    · have e1 : ((List.range len).map f).length = len := by simp
      rw [e1]
      intro w' s
      by_cases h0 : len = 0
      · subst h0
        exact ⟨by simp, by simp, .inl ⟨rfl, some a, m, rfl, hm⟩⟩
      · have h00 := (hf 0 (by omega)).1
        have hspot : a.spot = none := by
          have e : a.add 0 = a := by simp [Addr.add]
          rw [e] at h00
          exact spot_none h00
        obtain ⟨b, off, spot⟩ := a
        dsimp only at hspot
        subst hspot
        refine ⟨by simp, by omega, .inr ⟨m, rfl, hl, hm, fun j u hj => ?_⟩⟩
        have hjl : j < len := by
          have := (List.getElem?_eq_some_iff.1 hj).1
          simpa using this
        have h2 := (hf j (by omega)).1
        rw [addr_add] at h2
        have hu : u = .int .u8 (f j) := by
          simp [List.getElem?_map, List.getElem?_range hjl] at hj
          exact hj.symm
        rw [hu]
        exact keep_cell (E := envOf W) s h2
    · intro i hi
      have hi' : i < len := by simpa using hi
      rw [getElem!_pos _ i hi]
      simp only [List.getElem_map, List.getElem_range]
      exact (hf i (by omega)).2
theorem Cell.In32.Fl {c : Cell} (h : c.In32) : c.Fl := ⟨h.1.1, h.1.2.1⟩
end
end Go.Proofs.Ytijjjdljdjnbaaa
