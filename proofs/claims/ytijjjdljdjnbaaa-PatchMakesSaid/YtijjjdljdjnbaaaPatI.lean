/- Patches: the laws. -/
import Derived.Test.YtijjjdljdjnbaaaPatH
namespace Go.Proofs.Ytijjjdljdjnbaaa
set_option maxRecDepth 100000
set_option linter.unusedVariables false
set_option linter.unusedSimpArgs false
open Go.Sx

theorem baseC_full {a b : View} (ha : a.ok = true) (hb : b.ok = true) : (baseC a b.rows b.cols).length = b.cells.length := by
  have fa := (View.ok_fits ha).1
  have fb := (View.ok_fits hb).1
  have := mul_bound fb.1
  unfold baseC
  split
  · rename_i h; have := fa.2.2.2.2.2; have := fb.2.2.2.2.2; rw [h.1, h.2] at *; omega
  · rw [List.length_replicate]; have := fb.2.2.2.2.2; omega
theorem ok_480 {b : View} (hb : b.ok = true) : 1 ≤ b.cells.length ∧ b.cells.length ≤ 480 := by
  have fb := (View.ok_fits hb).1
  have := mul_bound fb.1
  have := fb.2.2.2.2.2
  omega
/-- what becomes what -/
def difP (a b : View) : List (Cell × Cell) := (baseC a b.rows b.cols).zip b.cells
theorem difP_len {a b : View} (ha : a.ok = true) (hb : b.ok = true) : (difP a b).length = b.cells.length := by
  unfold difP; rw [List.length_zip, baseC_full ha hb]; omega
theorem difR_fine {a b : View} (ha : a.ok = true) (hb : b.ok = true) (r : Nat × List Cell) (h : r ∈ difR 0 [] (difP a b)) : (r.1 ≤ 481 ∧ r.2.length ≤ 480) ∧ r.2 ≠ [] ∧ ∀ c ∈ r.2, c.ok = true := by
  have hl := difP_len ha hb
  have h4 := ok_480 hb
  obtain ⟨h1, h2, h3⟩ := difR_bound _ _ _ r h
  refine ⟨⟨by omega, by simp at h2; omega⟩, difR_some _ _ _ r h, fun c hc => ?_⟩
  rcases h3 c hc with h | h
  · cases h
  · obtain ⟨p, hp, rfl⟩ := List.mem_map.1 h
    exact (View.ok_fits hb).2 _ (List.of_mem_zip hp).2
theorem head_len (b : View) : b.head.length = 5 := rfl
theorem encR_pos (r : Nat × List Cell) (h : r.1 < 1000000) : 1 ≤ (encR r).length := by
  have : 1 ≤ sizeS (r.1 : Int) := sizeS_pos (by omega)
  simp [encR, putL_len]; omega
theorem flat_many {R : List (Nat × List Cell)} (h : ∀ r ∈ R, r.1 < 1000000) : R.length ≤ (R.flatMap encR).length := by
  induction R with
  | nil => simp
  | cons r t ih =>
    have := encR_pos r (h r (by simp))
    have := ih fun x hx => h x (by simp [hx])
    simp only [List.flatMap_cons, List.length_append, List.length_cons]; omega
theorem difB_runs {a b : View} (ha : a.ok = true) (hb : b.ok = true) : runsP (difB a b) = some ((difR 0 [] (difP a b)).map runI) := by
  have e : difB a b = b.head ++ (difR 0 [] (difP a b)).flatMap encR := rfl
  have hf := difR_fine ha hb
  have hm := flat_many (R := difR 0 [] (difP a b)) fun r hr => by have := (hf r hr).1; omega
  unfold runsP
  rw [if_neg (by rw [e, List.length_append, head_len]; omega)]
  have h := readRs_put (difR 0 [] (difP a b)) ((difB a b).length + 1) [] b.head (fun r hr => ⟨by have := (hf r hr).1; omega, by have := (hf r hr).1; omega, (hf r hr).2⟩) (by rw [e, List.length_append, head_len]; omega)
  rw [← e, head_len] at h
  simpa using h
theorem head_at {b : View} (l : List Int) : (b.head ++ l)[0]! = b.rows ∧ (b.head ++ l)[1]! = b.cols ∧ (b.head ++ l)[2]! = b.row ∧ (b.head ++ l)[3]! = b.col ∧ decide ((b.head ++ l)[4]! = 1) = b.vis := by
  refine ⟨rfl, rfl, rfl, rfl, ?_⟩
  have : (b.head ++ l)[4]! = if b.vis then 1 else 0 := rfl
  rw [this]; cases b.vis <;> rfl
theorem difB_at (a b : View) : (difB a b)[0]! = b.rows ∧ (difB a b)[1]! = b.cols ∧ (difB a b)[2]! = b.row ∧ (difB a b)[3]! = b.col ∧ decide ((difB a b)[4]! = 1) = b.vis := head_at _
theorem applyV_dif {a b : View} (ha : a.ok = true) (hb : b.ok = true) : applyV a (difB a b) = some b := by
  obtain ⟨e0, e1, e2, e3, e4⟩ := difB_at a b
  have fb := (View.ok_fits hb).1
  have hl := baseC_full ha hb
  have h4 := ok_480 hb
  have hA := applyL_dif (difP a b) 0 [] [] [] [] rfl rfl (by rw [difP_len ha hb]; simp; omega)
  have f1 : (difP a b).map Prod.fst = baseC a b.rows b.cols := by unfold difP; exact List.map_fst_zip (by omega)
  have f2 : (difP a b).map Prod.snd = b.cells := by unfold difP; exact List.map_snd_zip (by omega)
  simp only [List.nil_append, List.length_nil, f1, f2] at hA
  have hW : applyW a (difB a b) ((difR 0 [] (difP a b)).map runI) = b := by
    unfold applyW
    rw [e0, e1, e2, e3, e4, hA]
  unfold applyV
  rw [difB_runs ha hb]
  dsimp only
  rw [e0, e1, if_neg (by rintro (h | h); · rw [ha] at h; cases h
                         · have := fb.1; omega), hW, if_pos ⟨hb, rfl⟩]
/-- how many are others -/
def others : List (Cell × Cell) → Nat
  | [] => 0
  | p :: t => (if p.1 = p.2 then 0 else 1) + others t
theorem difR_few : ∀ (ps : List (Cell × Cell)) (k : Nat) (run : List Cell), (difR k run ps).length ≤ (if run = [] then 0 else 1) + others ps ∧ ((difR k run ps).flatMap Prod.snd).length = run.length + others ps
  | [], k, run => by
    simp only [difR, others]
    split
    · rename_i h; simp [h]
    · simp
  | (x, y) :: t, k, run => by
    simp only [difR, others]
    split
    · rename_i hxy
      split
      · rename_i h
        have ih := difR_few t (k + 1) []
        simp [h] at ih ⊢; exact ih
      · have ih := difR_few t 1 []
        simp at ih ⊢; omega
    · have ih := difR_few t k (run ++ [y])
      simp at ih ⊢
      refine ⟨?_, by omega⟩
      split <;> omega
theorem cells_len {l : List Cell} (h : ∀ c ∈ l, c.ok = true) : (l.flatMap Cell.bytes).length ≤ 13 * l.length := by
  induction l with
  | nil => simp
  | cons c t ih =>
    have := Cell.size_13 (h c (by simp))
    have := ih fun d hd => h d (by simp [hd])
    simp only [List.flatMap_cons, List.length_append, Cell.bytes_len, List.length_cons]; omega
theorem enc_len {R : List (Nat × List Cell)} (h : ∀ r ∈ R, (r.1 ≤ 481 ∧ r.2.length ≤ 480) ∧ r.2 ≠ [] ∧ ∀ c ∈ r.2, c.ok = true) : (R.flatMap encR).length ≤ 17 * (R.flatMap Prod.snd).length ∧ R.length ≤ (R.flatMap Prod.snd).length := by
  induction R with
  | nil => simp
  | cons r t ih =>
    obtain ⟨⟨h1, h2⟩, h3, h4⟩ := h r (by simp)
    have ih := ih fun x hx => h x (by simp [hx])
    have c1 := cells_len h4
    have s1 := sizeS_2 (v := (r.1 : Int)) (by omega)
    have s2 := sizeS_2 (v := (r.2.length : Int)) (by omega)
    have hp : 0 < r.2.length := List.length_pos_iff.2 h3
    simp only [List.flatMap_cons, List.length_append, List.length_cons, encR, putL_len]
    omega
theorem difB_len {a b : View} (ha : a.ok = true) (hb : b.ok = true) : (difB a b).length ≤ 5 + 17 * others (difP a b) ∧ (difR 0 [] (difP a b)).length ≤ others (difP a b) ∧ (0 < (difR 0 [] (difP a b)).length ↔ 5 < (difB a b).length) ∧ (0 < (difR 0 [] (difP a b)).length ↔ 0 < others (difP a b)) := by
  have e : (difB a b).length = 5 + ((difR 0 [] (difP a b)).flatMap encR).length := by
    have : difB a b = b.head ++ (difR 0 [] (difP a b)).flatMap encR := rfl
    rw [this, List.length_append, head_len]
  have hf := difR_fine ha hb
  have h1 := difR_few (difP a b) 0 []
  have h2 := enc_len hf
  have h3 := flat_many (R := difR 0 [] (difP a b)) fun r hr => by have := (hf r hr).1; omega
  simp only [if_true, List.length_nil, Nat.zero_add] at h1
  have h5 : (difR 0 [] (difP a b)).length = 0 → ((difR 0 [] (difP a b)).flatMap encR).length = 0 ∧ ((difR 0 [] (difP a b)).flatMap Prod.snd).length = 0 := fun h => by
    rw [List.length_eq_zero_iff.1 h]; simp
  rw [e]
  refine ⟨by omega, by omega, ?_, ?_⟩ <;> constructor <;> intro h <;> by_cases hz : (difR 0 [] (difP a b)).length = 0 <;> omega
theorem others_le (ps : List (Cell × Cell)) : others ps ≤ ps.length := by
  induction ps with
  | nil => simp [others]
  | cons p t ih => simp only [others, List.length_cons]; split <;> omega
theorem others_self (l : List Cell) : others (l.zip l) = 0 := by
  induction l with
  | nil => rfl
  | cons c t ih => simp [others, ih]
theorem difP_self {a : View} : difP a a = a.cells.zip a.cells := by simp [difP, baseC]
end Go.Proofs.Ytijjjdljdjnbaaa
