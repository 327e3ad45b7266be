/- What is written are bytes. -/
import Derived.Test.YtijjjdljdjnbaaaReadC
namespace Go.Proofs.Ytijjjdljdjnbaaa
set_option maxRecDepth 100000
set_option linter.unusedVariables false
set_option linter.unusedSimpArgs false
open Go.Sx

def BytM (l : List Int) : Prop := ∀ x ∈ l, 0 ≤ x ∧ x < 256
theorem Byt.mem {l : List Int} (h : Byt l) : BytM l := fun x hx => by
  obtain ⟨i, hi, rfl⟩ := List.getElem_of_mem hx
  have := h i hi
  rwa [getElem!_pos l i hi] at this
theorem BytM.byt {l : List Int} (h : BytM l) : Byt l := fun i hi => by
  rw [getElem!_pos l i hi]; exact h _ (List.getElem_mem hi)
theorem BytM.append {l k : List Int} (h : BytM l) (h2 : BytM k) : BytM (l ++ k) := fun x hx => by
  rcases List.mem_append.1 hx with h1 | h1
  · exact h x h1
  · exact h2 x h1
theorem BytM.cons {x : Int} {k : List Int} (h : 0 ≤ x ∧ x < 256) (h2 : BytM k) : BytM (x :: k) := fun y hy => by
  rcases List.mem_cons.1 hy with rfl | h1
  · exact h
  · exact h2 y h1
theorem BytM.nil : BytM [] := fun x hx => by simp at hx
theorem putL_byt {v : Int} (h0 : 0 ≤ v) (h1 : v < 4611686018427387904) : BytM (putL v) := fun x hx => by
  have hz := sizeS_pos h1
  obtain ⟨hb0, hb1⟩ := byte0_lt v h0 (by omega)
  obtain ⟨hc, _⟩ := class_of_size (v := v) (by omega)
  simp only [putL, List.mem_map, List.mem_range] at hx
  obtain ⟨j, hj, rfl⟩ := hx
  by_cases e : j = 0
  · subst e; simp only [if_true]; omega
  · simp only [e, if_false]
    unfold byteAt
    omega
def Cell.Fl (c : Cell) : Prop := 0 ≤ c.fl ∧ c.fl < 256
theorem Cell.bytes_byt {c : Cell} (h : c.ok = true) (hf : c.Fl) : BytM c.bytes := by
  have hk : isPt c.pt = true ∧ isCol c.fg = true ∧ isCol c.bg = true := by simpa [Cell.ok, okCell, okSty] using h
  have b1 := isPt_bound hk.1
  have b2 := isCol_bound hk.2.1
  have b3 := isCol_bound hk.2.2
  exact .append (.append (.cons hf .nil) (.append (putL_byt (by omega) (by omega)) (putL_byt (by omega) (by omega)))) (putL_byt (by omega) (by omega))
theorem runsFrom_byt : ∀ (t : List Cell) (c : Cell) (n : Nat), c.ok = true → c.Fl → (∀ d ∈ t, d.ok = true ∧ d.Fl) → n + t.length < 4611686018427387904 → BytM (runsFrom c n t)
  | [], c, n, h, hf, _, hn => .append (putL_byt (by omega) (by simp at hn; omega)) (c.bytes_byt h hf)
  | d :: t, c, n, h, hf, hall, hn => by
    have hd := hall d (by simp)
    simp only [List.length_cons] at hn
    simp only [runsFrom]
    split
    · exact runsFrom_byt t c (n + 1) h hf (fun e he => hall e (by simp [he])) (by omega)
    · exact .append (.append (putL_byt (by omega) (by omega)) (c.bytes_byt h hf)) (runsFrom_byt t d 1 hd.1 hd.2 (fun e he => hall e (by simp [he])) (by omega))
theorem runsB_byt {l : List Cell} (h : ∀ d ∈ l, d.ok = true ∧ d.Fl) (hn : l.length < 4611686018427387904) : BytM (runsB l) := by
  cases l with
  | nil => exact .nil
  | cons c t => exact runsFrom_byt t c 1 (h c (by simp)).1 (h c (by simp)).2 (fun d hd => h d (by simp [hd])) (by simp at hn; omega)
theorem View.ok_fits {v : View} (h : v.ok = true) : v.fits ∧ ∀ c ∈ v.cells, c.ok = true := by
  simp only [View.ok, Bool.and_eq_true, decide_eq_true_eq, List.all_eq_true] at h
  exact h
theorem View.bytes_byt {v : View} (h : v.ok = true) (hf : ∀ c ∈ v.cells, c.Fl) : Byt v.bytes := by
  obtain ⟨⟨hrc, f1, f2, f3, f4, f5⟩, hc⟩ := View.ok_fits h
  have hm := mul_bound hrc
  refine BytM.byt (.append (.cons (by omega) (.cons (by omega) (.cons (by omega) (.cons (by omega) (.cons ?_ .nil))))) (runsB_byt (fun d hd => ⟨hc d hd, hf d hd⟩) (by omega)))
  split <;> omega
theorem styleR_fl (bs : List Int) (hb : Byt bs) (p : Int) : 0 ≤ (styleR bs p).1.1 ∧ (styleR bs p).1.1 < 256 := by
  unfold styleR
  split
  · simp
  · split
    · simp
    · rename_i h1 h2
      have := hb p.toNat (by omega)
      dsimp only
      (repeat' split) <;> first | exact this | simp
theorem cellR_fl (bs : List Int) (hb : Byt bs) (p : Int) : (cellR bs p).1.Fl := by
  have := styleR_fl bs hb p
  unfold cellR Cell.Fl
  dsimp only
  (repeat' split) <;> first | exact this | simp
theorem styleR_next (bs : List Int) (p : Int) : (styleR bs p).2.2 = 0 → 0 ≤ p ∧ p < (styleR bs p).2.1 ∧ (styleR bs p).2.1 ≤ bs.length := by
  unfold styleR
  have g1 := getS_next bs (p + 1)
  have g2 := getS_next bs (getS bs (p + 1)).2.1
  dsimp only
  (repeat' split) <;> intro h <;> first | (simp at h; done) | (dsimp only at h ⊢; omega)
theorem cellR_next (bs : List Int) (p : Int) : (cellR bs p).2.2 = 0 → 0 ≤ p ∧ p < (cellR bs p).2.1 ∧ (cellR bs p).2.1 ≤ bs.length := by
  unfold cellR
  have g1 := styleR_next bs p
  have g2 := getS_next bs (styleR bs p).2.1
  dsimp only
  (repeat' split) <;> intro h <;> first | (simp at h; done) | (dsimp only at h ⊢; omega)
end Go.Proofs.Ytijjjdljdjnbaaa
