/- Patches: there and back; how many runs and bytes. -/
import Derived.Test.YtijjjdljdjnbaaaPatG
import Derived.Test.YtijjjdljdjnbaaaBackB
import Derived.Test.YtijjjdljdjnbaaaSizes
namespace Go.Proofs.Ytijjjdljdjnbaaa
set_option maxRecDepth 100000
set_option linter.unusedVariables false
set_option linter.unusedSimpArgs false
open Go.Sx

theorem readN_put : ∀ (xs cs : List Cell) (l r : List Int), (∀ c ∈ xs, c.ok = true) → readN (l ++ (xs.flatMap Cell.bytes ++ r)) xs.length cs l.length = some (cs ++ xs, ((l.length + (xs.flatMap Cell.bytes).length : Nat) : Int))
  | [], cs, l, r, _ => by simp [readN]
  | c :: t, cs, l, r, h => by
    have hc := cellR_put l (t.flatMap Cell.bytes ++ r) (h c (by simp))
    have e : l ++ ((c :: t).flatMap Cell.bytes ++ r) = l ++ (c.bytes ++ (t.flatMap Cell.bytes ++ r)) := by simp
    rw [e, List.length_cons, readN, hc]
    simp only [ne_eq, not_true_eq_false, if_false]
    have ih := readN_put t (cs ++ [c]) (l ++ c.bytes) r (fun d hd => h d (by simp [hd]))
    rw [List.length_append, Cell.bytes_len, List.append_assoc] at ih
    rw [show ((l.length : Int) + c.size) = ((l.length + c.size : Nat) : Int) by omega, ih]
    simp [Cell.bytes_len]; omega
def runI (r : Nat × List Cell) : Run := (min (r.1 : Int) 24000, r.2)
theorem readRs_put : ∀ (R : List (Nat × List Cell)) (k : Nat) (rs : List Run) (l : List Int), (∀ r ∈ R, r.1 < 1000000 ∧ r.2.length < 1000000 ∧ r.2 ≠ [] ∧ ∀ c ∈ r.2, c.ok = true) → R.length < k →
    readRs (l ++ R.flatMap encR) k rs l.length = some (rs ++ R.map runI)
  | [], k + 1, rs, l, _, _ => by
    simp [readRs]
  | r :: t, k + 1, rs, l, h, hk => by
    obtain ⟨h1, h2, h3, h4⟩ := h r (by simp)
    have hz : 1 ≤ sizeS (r.1 : Int) := sizeS_pos (by omega)
    have hn : 0 < r.2.length := List.length_pos_iff.2 h3
    have e : l ++ (r :: t).flatMap encR = l ++ (putL r.1 ++ (putL r.2.length ++ (r.2.flatMap Cell.bytes ++ t.flatMap encR))) := by simp [encR]
    have g1 := getS_put l (putL r.2.length ++ (r.2.flatMap Cell.bytes ++ t.flatMap encR)) (v := (r.1 : Int)) (by omega) (by omega)
    have g2 := getS_put (l ++ putL r.1) (r.2.flatMap Cell.bytes ++ t.flatMap encR) (v := (r.2.length : Int)) (by omega) (by omega)
    have g3 := readN_put r.2 [] (l ++ putL r.1 ++ putL r.2.length) (t.flatMap encR) h4
    rw [List.append_assoc, List.length_append, putL_len] at g2
    rw [List.append_assoc, List.append_assoc, List.length_append, List.length_append, putL_len, putL_len] at g3
    have ih := readRs_put t k (rs ++ [runI r]) (l ++ encR r) (fun x hx => h x (by simp [hx])) (by simp at hk; omega)
    have el : (l ++ encR r).length = l.length + sizeS (r.1 : Int) + sizeS (r.2.length : Int) + (r.2.flatMap Cell.bytes).length := by simp [encR, putL_len]; omega
    have e2 : (l ++ encR r) ++ t.flatMap encR = l ++ (r :: t).flatMap encR := by simp
    rw [e2, el] at ih
    rw [readRs, if_pos (by rw [e]; simp [putL_len]; omega)]
    rw [e]
    rw [e] at ih
    rw [g1]
    simp only [ne_eq, not_true_eq_false, if_false]
    rw [show ((l.length : Int) + sizeS (r.1 : Int)) = ((l.length + sizeS (r.1 : Int) : Nat) : Int) by omega, g2]
    rw [if_neg (by simp; exact h3)]
    dsimp only
    rw [Int.toNat_natCast, show ((l.length + sizeS (r.1 : Int) : Nat) : Int) + (sizeS (r.2.length : Int) : Int) = ((l.length + sizeS (r.1 : Int) + sizeS (r.2.length : Int) : Nat) : Int) by omega, g3]
    dsimp only [List.nil_append]
    have : (rs ++ [(min (r.1 : Int) 24000, r.2)]) = rs ++ [runI r] := rfl
    rw [this, ih]
    simp
theorem difR_some : ∀ (ps : List (Cell × Cell)) (k : Nat) (run : List Cell) (r : Nat × List Cell), r ∈ difR k run ps → r.2 ≠ []
  | [], k, run, r, h => by
    simp only [difR] at h
    split at h
    · cases h
    · rename_i hr
      rw [List.mem_singleton.1 h]; exact hr
  | (x, y) :: t, k, run, r, h => by
    simp only [difR] at h
    split at h
    · split at h
      · exact difR_some t _ _ r h
      · rename_i hr
        rcases List.mem_cons.1 h with rfl | h
        · exact hr
        · exact difR_some t _ _ r h
    · exact difR_some t _ _ r h
theorem applyL_dif : ∀ (ps : List (Cell × Cell)) (k : Nat) (X S R run : List Cell), S.length = k → R.length = run.length → k + ps.length + run.length ≤ 24000 →
    applyL (X ++ (S ++ (R ++ ps.map Prod.fst))) X.length ((difR k run ps).map runI) = X ++ (S ++ (run ++ ps.map Prod.snd))
  | [], k, X, S, R, run, hS, hR, hb => by
    simp only [difR]
    split
    · rename_i h
      subst h
      have : R = [] := List.length_eq_zero_iff.1 (by simpa using hR)
      subst this
      simp [applyL]
    · simp only [List.map_cons, List.map_nil, applyL, runI]
      have hm : (min (k : Int) 24000).toNat = k := by simp at hb; omega
      rw [hm, if_neg (by simp; omega)]
      unfold lay
      rw [show X ++ (S ++ (R ++ [])) = (X ++ S) ++ R by simp, List.take_left' (by simp; omega), List.drop_of_length_le (by simp; omega)]
      simp
  | (x, y) :: t, k, X, S, R, run, hS, hR, hb => by
    simp only [difR]
    simp only [List.length_cons] at hb
    split
    · rename_i hxy
      subst hxy
      split
      · rename_i h
        subst h
        have : R = [] := List.length_eq_zero_iff.1 (by simpa using hR)
        subst this
        have ih := applyL_dif t (k + 1) X (S ++ [x]) [] [] (by simp; omega) rfl (by simp; omega)
        simpa using ih
      · simp only [List.map_cons, applyL, runI]
        have hm : (min (k : Int) 24000).toNat = k := by omega
        rw [hm, if_neg (by simp; omega)]
        have ih := applyL_dif t 1 (X ++ (S ++ run)) [x] [] [] rfl rfl (by simp; omega)
        have el : lay (X ++ (S ++ (R ++ x :: t.map Prod.fst))) (X.length + k) run = X ++ (S ++ run) ++ ([x] ++ ([] ++ t.map Prod.fst)) := by
          unfold lay
          rw [show X ++ (S ++ (R ++ x :: t.map Prod.fst)) = (X ++ S) ++ (R ++ x :: t.map Prod.fst) by simp, List.take_left' (by simp; omega)]
          rw [show (X ++ S) ++ (R ++ x :: t.map Prod.fst) = (X ++ S ++ R) ++ (x :: t.map Prod.fst) by simp, List.drop_left' (by simp; omega)]
          simp
        rw [el, show X.length + k + run.length = (X ++ (S ++ run)).length by simp; omega, ih]
        simp
    · have ih := applyL_dif t k X S (R ++ [x]) (run ++ [y]) hS (by simp; omega) (by simp; omega)
      simpa using ih
end Go.Proofs.Ytijjjdljdjnbaaa
