/- Qd: Sizes, Close, OpenV, OpenW, Back, BackB, WR, BackW, OpenB. -/
import Derived.WalkKit
import Derived.ProofKit
import Derived.OpenShut
import Derived.Carry
import Derived.Deep.Slices
import Derived.Test.YtijjjdljdjnbaaaRsa
import Derived.Test.YtijjjdljdjnbaaaRsb
import Derived.Test.YtijjjdljdjnbaaaRsc
section
/- ViewSizes. -/
namespace Go.Proofs.Ytijjjdljdjnbaaa
set_option maxRecDepth 100000
set_option linter.unusedVariables false
set_option linter.unusedSimpArgs false
open Go.Sx

end Go.Proofs.Ytijjjdljdjnbaaa
end
section
/- From a contract to the statement's conclusion: a call that writes nothing of what was there, and returns true. -/
namespace Go.Proofs.Ytijjjdljdjnbaaa
set_option linter.unusedVariables false
open Go.Sx Go.ChangeShapes Go.RowKit Go.WideShapes Go.ChangeAt

theorem below_of_St {W W' : World} {H : List HProp} (s : St (envOf W) H W') : Below W.heap.size W W' where
  os := s.os
  tape := s.tape
  output := s.output
  block := fun k hk => by
    have h : W.heap[k]? = some W.heap[k] := Array.getElem?_eq_getElem hk
    have := s.keep k _ h
    rw [h]; exact this
  size := by
    by_cases h0 : W.heap.size = 0
    · omega
    · have hk : W.heap.size - 1 < W.heap.size := by omega
      have h : W.heap[W.heap.size - 1]? = some W.heap[W.heap.size - 1] := Array.getElem?_eq_getElem hk
      have h2 : W'.heap[W.heap.size - 1]? = some W.heap[W.heap.size - 1] := s.keep _ _ h
      have := (Array.getElem?_eq_some_iff.1 h2).1
      omega
section
variable {H : Type} {enc : TypeId × Value → H} {P : Program}
theorem trodAll_below (hl : laidOutB P = true) {W W' : World} (hb : Below W.heap.size W W') (sp : Nat → Bool) : ∀ {ts : List TypeId} {vs : List Value} {ds : List (DataW H)} {ps : List MemPlace},
    (∀ t ∈ ts, P.readableRec t = true ∧ t < P.types.size) → DataW.TrodAll enc P W 0 (fun _ => true) true ts vs ds ps → (∀ x ∈ ps, x.block < W.heap.size) → (∀ x ∈ ps, sp x.block = true) → DataW.TrodAll enc P W' 0 sp true ts vs ds ps
  | [], [], [], _, _, h, _, _ => h
  | t :: _, _ :: _, _ :: _, _, ht, ⟨p, q, h1, h2, e⟩, hlt, hs =>
    ⟨p, q, WideElems.Trod_stays hl (ht t (by simp)).1 (ht t (by simp)).2 h1 (fun x hx => hb.same (hlt x (by rw [e]; exact List.mem_append_left _ hx))) (fun x hx => hs x (by rw [e]; exact List.mem_append_left _ hx)),
      trodAll_below hl hb sp (fun t' ht' => ht t' (List.mem_cons_of_mem _ ht')) h2 (fun x hx => hlt x (by rw [e]; exact List.mem_append_right _ hx)) (fun x hx => hs x (by rw [e]; exact List.mem_append_right _ hx)), e⟩
theorem post_of_below {f : Func} {s : ChangeSpec} {apart fresh handsOn : Bool} {W W' : World} {args : Array Value} {ds gs : List (DataW H)} {before : List MemPlace} {tb : TypeId}
    (hvars : s.vars = []) (hfn : s.fn H ds = { results := [.lit (.bool true)], args := ds }) (hres : f.resultTypes = #[tb]) (hub : P.underlying tb = some .bool)
    (hl : laidOutB P = true) (hpar : ∀ t ∈ f.params.toList, P.readableRec t = true ∧ t < P.types.size)
    (hW : DataW.Whole enc P f.params.toList s.vars apart W args.toList ds gs before) (hb : Below W.heap.size W W') : s.post enc P f apart fresh handsOn false W args (.bool true) W' := by
  have hlt : ∀ x ∈ before, x.block < W.heap.size := fun x hx => by simpa using hW.lt x hx
  have hW' := hW
  obtain ⟨p, q, hA, hV, rfl, _, _⟩ := hW
  rw [hvars] at hV
  obtain ⟨rfl, rfl⟩ := trodVars_none hV
  rw [List.append_nil] at hW' hlt
  refine ⟨ds, [], p, [], p, [], hW', ?_, ?_, ?_, hb.frame _, fun h => by cases h⟩
  · rw [List.append_nil, hfn, hres]
    exact trodAll_cons_mk (shut_bool hub _) trodAll_mk0
  · rw [List.append_nil, hfn]
    exact trodAll_below hl hb _ hpar hA hlt (fun x hx => by simpa using hlt x hx)
  · rw [List.append_nil, hfn, hvars]; exact rfl
end
end Go.Proofs.Ytijjjdljdjnbaaa
end
section
/- What a view is that comes in. -/
namespace Go.Proofs.Ytijjjdljdjnbaaa
set_option maxRecDepth 100000
set_option linter.unusedVariables false
set_option linter.unusedSimpArgs false
open Go.Sx Go.ChangeShapes Go.RowKit

section
variable {H : Type} {enc : TypeId × Value → H} {W : World} {base : Nat} {sp : Nat → Bool} {held : Bool} {fuel : Nat} {cs : List Value} {x : DataW H × List MemPlace}
theorem fldT {P : Program} {t : TypeId} {fs : Array Field} (ht : P.underlying t = some (.struct fs)) (h : DataW.trod enc P W base sp held fuel t cs = some x) (i : Nat) (t' off c : Nat) {f : Field} (hi : fs[i]? = some f) (e1 : f.type = t') (e2 : f.offset = off) (e3 : P.cellsOf t' = c) :
    ∃ n y, DataW.trod enc P W base sp held n t' ((cs.drop off).take c) = some y := by
  subst e1 e2 e3
  obtain ⟨xs, n, _, _, _, hl, hf⟩ := DataW.trod_struct ht h
  have hlt : i < xs.length := by rw [hl]; exact (Array.getElem?_eq_some_iff.1 hi).1
  exact ⟨n, xs[i], by rw [hf i f hi, List.getElem?_eq_getElem hlt]⟩
theorem lenT {P : Program} {t : TypeId} {fs : Array Field} (ht : P.underlying t = some (.struct fs)) (h : DataW.trod enc P W base sp held fuel t cs = some x) : cs.length = P.cellsOf t := by
  obtain ⟨xs, n, _, _, hc, _, _⟩ := DataW.trod_struct ht h
  exact hc
theorem cells1_21 : Try.prog.cellsOf 21 = 1 := by kernel_rfl
theorem cells1_5 : Try.prog.cellsOf 5 = 1 := by kernel_rfl
theorem cells1_51 : Try.prog.cellsOf 51 = 1 := by kernel_rfl
theorem cells1_3 : Try.prog.cellsOf 3 = 1 := by kernel_rfl
theorem cells1_4 : Try.prog.cellsOf 4 = 1 := by kernel_rfl
theorem cells1_22 : Try.prog.cellsOf 22 = 1 := by kernel_rfl
theorem cells3_53 : Try.prog.cellsOf 53 = 3 := by kernel_rfl
theorem cells4_55 : Try.prog.cellsOf 55 = 4 := by kernel_rfl
theorem cells6_24 : Try.prog.cellsOf 24 = 6 := by kernel_rfl
def Cell.In32 (c : Cell) : Prop := c.In ∧ -2147483648 ≤ c.pt ∧ c.pt ≤ 2147483647
theorem trod_cell (h : DataW.trod enc Try.prog W base sp held fuel 55 cs = some x) : ∃ c : Cell, cs = c.enc ∧ c.In32 := by
  have hl := lenT Try.underlying55 h
  rw [cells4_55] at hl
  match cs, hl with
  | [v0, v1, v2, v3], _ =>
    obtain ⟨n0, y0, h0⟩ := fldT Try.underlying55 h 0 21 0 1 rfl rfl rfl cells1_21
    obtain ⟨n1, y1, h1⟩ := fldT Try.underlying55 h 1 53 1 3 rfl rfl rfl cells3_53
    obtain ⟨a0, e0, _, w0⟩ := DataW.trod_int Try.underlying21 h0
    obtain ⟨n2, y2, h2⟩ := fldT Try.underlying53 h1 0 5 0 1 rfl rfl rfl cells1_5
    obtain ⟨n3, y3, h3⟩ := fldT Try.underlying53 h1 1 51 1 1 rfl rfl rfl cells1_51
    obtain ⟨n4, y4, h4⟩ := fldT Try.underlying53 h1 2 51 2 1 rfl rfl rfl cells1_51
    obtain ⟨a1, e1, _, w1⟩ := DataW.trod_int Try.underlying5 h2
    obtain ⟨a2, e2, _, w2⟩ := DataW.trod_int Try.underlying51 h3
    obtain ⟨a3, e3, _, w3⟩ := DataW.trod_int Try.underlying51 h4
    simp at e0 e1 e2 e3
    subst e0 e1 e2 e3
    have b0 := bounds_i32 w0
    have b1 := bounds_u8 w1
    have b2 := bounds_u32 w2
    have b3 := bounds_u32 w3
    exact ⟨⟨a0, a1, a2, a3⟩, rfl, ⟨by dsimp only; omega, by dsimp only; omega, by dsimp only; omega, by dsimp only; omega, by dsimp only; omega, by dsimp only; omega⟩, b0.1, b0.2⟩
theorem keep_cell {E : Env} {Hs : List HProp} {w' : World} (s : St (envOf W) Hs w') {a : Addr} {v : Value} (h : W.cell? a = some v) : w'.cell? a = some v := by
  unfold World.cell? at h ⊢
  cases hb : W.heap[a.block]? with
  | none => rw [hb] at h; cases h
  | some o =>
    have hk : w'.heap[a.block]? = some o := s.keep _ _ hb
    rw [hb] at h; rw [hk]; exact h
theorem spot_none {a : Addr} {v : Value} (h : W.cell? a = some v) : a.spot = none := by
  unfold World.cell? at h
  split at h
  · split at h
    · cases h
    · rename_i h1; simpa using h1
  · cases h
theorem flatC_len (l : List Cell) : (l.flatMap Cell.enc).length = l.length * 4 := by
  induction l with
  | nil => rfl
  | cons c t ih => rw [List.flatMap_cons, List.length_append, ih]; simp [Cell.enc]; omega
theorem trod_cells (h : DataW.trod enc Try.prog W base (fun _ => true) held fuel 22 cs = some x) : ∃ (s : Value) (cells : List Cell), cs = [s] ∧ Sl (envOf W) [] 4 s cells.length (cells.flatMap Cell.enc) ∧ ∀ c ∈ cells, c.In32 := by
  rcases Go.Deep.open_slice Try.underlying22 h with ⟨rfl, _⟩ | ⟨a, len, cap, m, n, D, Pl, rfl, hb, hl, hm, hmm, _, hx⟩
  · exact ⟨_, [], rfl, slNone _ 4, by simp⟩
  · simp only [if_true] at hmm
    subst hmm
    have hc : ∀ i, i < m → ∃ c : Cell, (∀ j, j < 4 → W.cell? (a.add (i * 4 + j)) = c.enc[j]?) ∧ c.In32 := fun i hi => by
      obtain ⟨cs', h1, h2⟩ := hx i hi
      rw [cells4_55] at h1
      obtain ⟨_, _, h3⟩ := World.cells?_some h1
      obtain ⟨c, rfl, hin⟩ := trod_cell h2
      refine ⟨c, fun j hj => ?_, hin⟩
      have := h3 j hj
      rwa [Go.Deep.add_add] at this
    have : ∃ f : Nat → Cell, ∀ i, i < m → (∀ j, j < 4 → W.cell? (a.add (i * 4 + j)) = (f i).enc[j]?) ∧ (f i).In32 :=
      ⟨fun i => if h : i < m then Classical.choose (hc i h) else default, fun i hi => by dsimp only; rw [dif_pos hi]; exact Classical.choose_spec (hc i hi)⟩
    obtain ⟨f, hf⟩ := this
    refine ⟨_, (List.range len).map f, rfl, ?_, ?_⟩
    · have e1 : ((List.range len).map f).length = len := by simp
      rw [e1]
      intro w' s
      by_cases h0 : len = 0
      · subst h0
        exact ⟨by simp, by simp, .inl ⟨rfl, some a, m, rfl, hm⟩⟩
      · have h00 := (hf 0 (by omega)).1 0 (by omega)
        have hspot : a.spot = none := by
          have e : a.add (0 * 4 + 0) = a := by simp [Addr.add]
          rw [e] at h00
          exact spot_none (v := .int .i32 (f 0).pt) h00
        obtain ⟨b, off, spot⟩ := a
        dsimp only at hspot
        subst hspot
        refine ⟨by rw [flatC_len, e1], by omega, .inr ⟨m, rfl, hl, hm, fun j u hj => ?_⟩⟩
        have hjl : j < len * 4 := by
          have := (List.getElem?_eq_some_iff.1 hj).1
          rw [flatC_len, e1] at this
          exact this
        have hd := flat_drop (enc := Cell.enc) (sz := 4) (fun _ => rfl) ((List.range len).map f) (j / 4)
        have hg := gf (enc := Cell.enc) (sz := 4) (fun _ => rfl) (xs := (List.range len).map f) (i := j / 4) (by simp; omega)
        have hi : ((List.range len).map f)[j / 4]! = f (j / 4) := by
          rw [getElem!_pos _ _ (by simp; omega)]; simp
        rw [hi] at hg
        have hu : (f (j / 4)).enc[j % 4]? = some u := by
          rw [← hg, List.getElem?_take_of_lt (by omega), List.getElem?_drop, show j / 4 * 4 + j % 4 = j by omega]; exact hj
        have h2 := (hf (j / 4) (by omega)).1 (j % 4) (by omega)
        rw [hu, addr_add, show j / 4 * 4 + j % 4 = j by omega] at h2
        exact keep_cell (E := envOf W) s h2
    · intro c hc'
      simp only [List.mem_map, List.mem_range] at hc'
      obtain ⟨i, hi, rfl⟩ := hc'
      exact (hf i (by omega)).2
end
end Go.Proofs.Ytijjjdljdjnbaaa
end
section
/- A view as an argument. -/
namespace Go.Proofs.Ytijjjdljdjnbaaa
set_option maxRecDepth 100000
set_option linter.unusedVariables false
set_option linter.unusedSimpArgs false
open Go.Sx Go.ChangeShapes Go.RowKit Go.WideShapes

end Go.Proofs.Ytijjjdljdjnbaaa
end
section
/- Bytes that were written are read as what they were written of. -/
namespace Go.Proofs.Ytijjjdljdjnbaaa
set_option maxRecDepth 100000
set_option linter.unusedVariables false
set_option linter.unusedSimpArgs false
open Go.Sx

end Go.Proofs.Ytijjjdljdjnbaaa
end
section
/- Views that were written are read as they were. -/
namespace Go.Proofs.Ytijjjdljdjnbaaa
set_option maxRecDepth 100000
set_option linter.unusedVariables false
set_option linter.unusedSimpArgs false
open Go.Sx

end Go.Proofs.Ytijjjdljdjnbaaa
end
section
/- view.Write and view.Read, whatever comes in: one contract each. -/
namespace Go.Proofs.Ytijjjdljdjnbaaa
set_option maxRecDepth 100000
set_option linter.unusedVariables false
set_option linter.unusedSimpArgs false
open Go.Sx

end Go.Proofs.Ytijjjdljdjnbaaa
end
section
/- ViewBack. -/
namespace Go.Proofs.Ytijjjdljdjnbaaa
set_option maxRecDepth 100000
set_option linter.unusedVariables false
set_option linter.unusedSimpArgs false
open Go.Sx

end Go.Proofs.Ytijjjdljdjnbaaa
end
section
/- Bytes as an argument. -/
namespace Go.Proofs.Ytijjjdljdjnbaaa
set_option maxRecDepth 100000
set_option linter.unusedVariables false
set_option linter.unusedSimpArgs false
open Go.Sx Go.ChangeShapes Go.RowKit Go.WideShapes
section
variable {H : Type} {enc : TypeId × Value → H} {W : World} {base : Nat} {held : Bool} {fuel : Nat} {cs : List Value} {x : DataW H × List MemPlace}
theorem trod_bytes (h : DataW.trod enc Try.prog W base (fun _ => true) held fuel 32 cs = some x) : ∃ (s : Value) (bs : List Int), cs = [s] ∧ Sl (envOf W) [] 1 s bs.length (bs.map (.int .u8)) ∧ Byt bs := by
  rcases Go.Deep.open_slice1 Try.underlying32 cells1_5 h with ⟨rfl, _⟩ | ⟨a, len, cap, m, n, V, D, Pl, rfl, hb, hl, hm, hmm, _, hx⟩
  · exact ⟨_, [], rfl, slNone _ 1, fun i hi => by simp at hi⟩
  · simp only [if_true] at hmm
    subst hmm
    have hc : ∀ i, i < m → ∃ c : Int, W.cell? (a.add i) = some (.int .u8 c) ∧ 0 ≤ c ∧ c < 256 := fun i hi => by
      obtain ⟨h1, h2⟩ := hx i hi
      obtain ⟨c, e, _, w0⟩ := DataW.trod_int Try.underlying5 h2
      have := bounds_u8 w0
      simp at e
      exact ⟨c, by rw [h1, e], by omega, by omega⟩
    have : ∃ f : Nat → Int, ∀ i, i < m → W.cell? (a.add i) = some (.int .u8 (f i)) ∧ 0 ≤ f i ∧ f i < 256 :=
      ⟨fun i => if h : i < m then Classical.choose (hc i h) else 0, fun i hi => by dsimp only; rw [dif_pos hi]; exact Classical.choose_spec (hc i hi)⟩
    obtain ⟨f, hf⟩ := this
    refine ⟨_, (List.range len).map f, rfl, ?_, ?_⟩
    · have e1 : ((List.range len).map f).length = len := by simp
      rw [e1]
      intro w' s
      by_cases h0 : len = 0
      · subst h0
        exact ⟨by simp, by simp, .inl ⟨rfl, some a, m, rfl, hm⟩⟩
      · have h00 := (hf 0 (by omega)).1
        have hspot : a.spot = none := by
          have e : a.add 0 = a := by simp [Addr.add]
          rw [e] at h00
          exact spot_none h00
        obtain ⟨b, off, spot⟩ := a
        dsimp only at hspot
        subst hspot
        refine ⟨by simp, by omega, .inr ⟨m, rfl, hl, hm, fun j u hj => ?_⟩⟩
        have hjl : j < len := by
          have := (List.getElem?_eq_some_iff.1 hj).1
          simpa using this
        have h2 := (hf j (by omega)).1
        rw [addr_add] at h2
        have hu : u = .int .u8 (f j) := by
          simp [List.getElem?_map, List.getElem?_range hjl] at hj
          exact hj.symm
        rw [hu]
        exact keep_cell (E := envOf W) s h2
    · intro i hi
      have hi' : i < len := by simpa using hi
      rw [getElem!_pos _ i hi]
      simp only [List.getElem_map, List.getElem_range]
      exact (hf i (by omega)).2
theorem Cell.In32.Fl {c : Cell} (h : c.In32) : c.Fl := ⟨h.1.1, h.1.2.1⟩
end
end Go.Proofs.Ytijjjdljdjnbaaa
end
