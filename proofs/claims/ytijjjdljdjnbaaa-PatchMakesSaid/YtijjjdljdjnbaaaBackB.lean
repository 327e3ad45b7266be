/- Views that were written are read as they were. -/
import Derived.Test.YtijjjdljdjnbaaaBack
namespace Go.Proofs.Ytijjjdljdjnbaaa
set_option maxRecDepth 100000
set_option linter.unusedVariables false
set_option linter.unusedSimpArgs false
open Go.Sx

theorem styleR_put (l r : List Int) {c : Cell} (h : c.okStyle = true) : styleR (l ++ (c.styleB ++ r)) l.length = ((c.fl, c.fg, c.bg), (l.length : Int) + c.styleN, 0) := by
  have hf : isCol c.fg = true ∧ isCol c.bg = true := by simpa [Cell.okStyle, okSty] using h
  have b1 := isCol_bound hf.1
  have b2 := isCol_bound hf.2
  have e1 : l ++ (c.styleB ++ r) = (l ++ [c.fl]) ++ (putL c.fg ++ (putL c.bg ++ r)) := by simp [Cell.styleB]
  have e2 : l ++ (c.styleB ++ r) = (l ++ [c.fl] ++ putL c.fg) ++ (putL c.bg ++ r) := by simp [Cell.styleB]
  have g1 := getS_put (l ++ [c.fl]) (putL c.bg ++ r) (v := c.fg) (by omega) (by omega)
  have g2 := getS_put (l ++ [c.fl] ++ putL c.fg) r (v := c.bg) (by omega) (by omega)
  rw [← e1, show (((l ++ [c.fl]).length : Nat) : Int) = (l.length : Int) + 1 by simp] at g1
  rw [← e2, show (((l ++ [c.fl] ++ putL c.fg).length : Nat) : Int) = (l.length : Int) + 1 + sizeS c.fg by simp [putL_len]; omega] at g2
  have hl : (l ++ (c.styleB ++ r)).length = l.length + (1 + sizeS c.fg + sizeS c.bg + r.length) := by simp [Cell.styleB, putL_len]; omega
  have hx : (l ++ (c.styleB ++ r))[l.length]! = c.fl := by
    rw [getElem!_pos _ _ (by rw [hl]; omega)]
    simp [Cell.styleB]
  unfold styleR
  rw [if_neg (by rw [hl]; omega), if_neg (by rw [hl]; omega)]
  simp only [g1, g2, Int.toNat_natCast, hx]
  rw [Int.min_eq_left (by omega), Int.min_eq_left (by omega)]
  simp only [hf.1, hf.2, Bool.and_self, if_true]
  simp [Cell.styleN]; omega
theorem cellR_put (l r : List Int) {c : Cell} (h : c.ok = true) : cellR (l ++ (c.bytes ++ r)) l.length = (c, (l.length : Int) + c.size, 0) := by
  have hk : isPt c.pt = true ∧ c.okStyle = true := by simpa [Cell.ok, okCell] using h
  have b1 := isPt_bound hk.1
  have e1 : l ++ (c.bytes ++ r) = l ++ (c.styleB ++ (putL c.pt ++ r)) := by simp [Cell.bytes]
  have e2 : l ++ (c.bytes ++ r) = (l ++ c.styleB) ++ (putL c.pt ++ r) := by simp [Cell.bytes]
  have g1 := styleR_put l (putL c.pt ++ r) hk.2
  have g2 := getS_put (l ++ c.styleB) r (v := c.pt) (by omega) (by omega)
  have hs : c.styleB.length = c.styleN := by simp [Cell.styleB, Cell.styleN, putL_len]; omega
  rw [← e1] at g1
  rw [← e2, show (((l ++ c.styleB).length : Nat) : Int) = (l.length : Int) + c.styleN by simp [hs]] at g2
  unfold cellR
  simp only [g1, g2]
  rw [Int.min_eq_left (by omega)]
  have : (⟨c.pt, c.fl, c.fg, c.bg⟩ : Cell).ok = true := h
  simp only [this, if_true]
  simp [Cell.size]; omega
theorem runs_split : ∀ (t : List Cell) (c : Cell) (n : Nat), ∃ m, m ≤ t.length ∧ t = List.replicate m c ++ t.drop m ∧ runsFrom c n t = putL ((n + m : Nat) : Int) ++ (c.bytes ++ runsB (t.drop m))
  | [], c, n => ⟨0, by simp, by simp, by simp [runsFrom, runsB]⟩
  | d :: t, c, n => by
    by_cases e : d = c
    · obtain ⟨m, h1, h2, h3⟩ := runs_split t c (n + 1)
      refine ⟨m + 1, by simp; omega, ?_, ?_⟩
      · rw [List.replicate_succ, List.cons_append, List.drop_succ_cons, ← h2, e]
      · simp only [runsFrom, e, if_true, List.drop_succ_cons]
        rw [h3, show n + 1 + m = n + (m + 1) by omega]
    · refine ⟨0, by simp, by simp, ?_⟩
      simp [runsFrom, runsB, e]
theorem readCells_runs : ∀ (k : Nat) (xs cs : List Cell) (l : List Int), (∀ c ∈ xs, c.ok = true) → cs.length + xs.length ≤ 480 → (runsB xs).length < k → readCells (l ++ runsB xs) k cs l.length = (cs ++ xs, ((l ++ runsB xs).length : Int))
  | 0, xs, cs, l, _, _, h => by omega
  | k + 1, [], cs, l, _, _, h => by
    unfold readCells
    rw [if_neg (by simp [runsB])]
    simp [runsB]
  | k + 1, c :: t, cs, l, hok, hn, h => by
    obtain ⟨m, h1, h2, h3⟩ := runs_split t c 1
    have hr : runsB (c :: t) = putL ((1 + m : Nat) : Int) ++ (c.bytes ++ runsB (t.drop m)) := h3
    have hc := hok c (by simp)
    simp only [List.length_cons] at hn
    have hz := sizeS_pos (v := ((1 + m : Nat) : Int)) (by omega)
    have g := getS_put l (c.bytes ++ runsB (t.drop m)) (v := ((1 + m : Nat) : Int)) (by omega) (by omega)
    have e2 : l ++ runsB (c :: t) = (l ++ putL ((1 + m : Nat) : Int)) ++ (c.bytes ++ runsB (t.drop m)) := by rw [hr]; simp
    have g2 := cellR_put (l ++ putL ((1 + m : Nat) : Int)) (runsB (t.drop m)) hc
    rw [← e2, show (((l ++ putL ((1 + m : Nat) : Int)).length : Nat) : Int) = (l.length : Int) + sizeS ((1 + m : Nat) : Int) by simp [putL_len]] at g2
    rw [← hr] at g
    have hlen : (runsB (c :: t)).length = sizeS ((1 + m : Nat) : Int) + (c.size + (runsB (t.drop m)).length) := by rw [hr]; simp [putL_len, Cell.bytes_len]
    unfold readCells
    rw [if_pos (by rw [List.length_append, hlen]; omega), g]
    dsimp only
    rw [if_neg (by omega), g2]
    dsimp only
    rw [if_neg (by omega), Int.toNat_natCast]
    have ih := readCells_runs k (t.drop m) (cs ++ List.replicate (1 + m) c) (l ++ putL ((1 + m : Nat) : Int) ++ c.bytes) (fun d hd => hok d (List.mem_cons_of_mem _ (List.mem_of_mem_drop hd))) (by simp; omega) (by omega)
    have e3 : (l ++ putL ((1 + m : Nat) : Int) ++ c.bytes) ++ runsB (t.drop m) = l ++ runsB (c :: t) := by rw [hr]; simp
    rw [e3, show (((l ++ putL ((1 + m : Nat) : Int) ++ c.bytes).length : Nat) : Int) = (l.length : Int) + sizeS ((1 + m : Nat) : Int) + c.size by simp [putL_len, Cell.bytes_len]; omega] at ih
    rw [ih]
    congr 1
    rw [List.append_assoc]
    congr 1
    rw [show 1 + m = m + 1 by omega, List.replicate_succ, List.cons_append, ← h2]
theorem readV_bytes {v : View} (h : v.ok = true) : readV v.bytes = some v := by
  obtain ⟨⟨hrc, f1, f2, f3, f4, f5⟩, hc⟩ := View.ok_fits h
  have hm := mul_bound hrc
  have hb : v.bytes = v.head ++ runsB v.cells := rfl
  have hl : v.head.length = 5 := rfl
  have hr := readCells_runs (v.bytes.length + 1) v.cells [] v.head hc (by simp; omega) (by rw [hb, List.length_append]; omega)
  rw [← hb] at hr
  have ha : readAll v.bytes = (v.cells, (v.bytes.length : Int)) := by unfold readAll; exact hr
  have h4 : v.bytes[4]! = if v.vis then 1 else 0 := by
    rw [hb, getElem!_pos _ _ (by rw [List.length_append, hl]; omega)]; rfl
  have h0 : v.bytes[0]! = v.rows := by rw [hb, getElem!_pos _ _ (by rw [List.length_append, hl]; omega)]; rfl
  have h1 : v.bytes[1]! = v.cols := by rw [hb, getElem!_pos _ _ (by rw [List.length_append, hl]; omega)]; rfl
  have h2 : v.bytes[2]! = v.row := by rw [hb, getElem!_pos _ _ (by rw [List.length_append, hl]; omega)]; rfl
  have h3 : v.bytes[3]! = v.col := by rw [hb, getElem!_pos _ _ (by rw [List.length_append, hl]; omega)]; rfl
  have hw : readW v.bytes = v := by
    unfold readW
    rw [ha, h0, h1, h2, h3, h4]
    cases v with
    | mk a b c d e f => cases f <;> simp
  unfold readV
  rw [if_neg (by rw [h4, hb, List.length_append, hl]; split <;> omega), hw, ha, if_pos ⟨rfl, h, rfl⟩]
theorem readV_some {bs : List Int} {v : View} (h : readV bs = some v) : v.ok = true ∧ v.bytes = bs := by
  unfold readV at h
  split at h
  · cases h
  · split at h
    · rename_i h2
      obtain rfl := Option.some.inj h
      exact ⟨h2.2.1, h2.2.2⟩
    · cases h
theorem bytes_inj {a b : View} (ha : a.ok = true) (hb : b.ok = true) : a.bytes = b.bytes ↔ a = b := by
  constructor
  · intro h
    have h1 := readV_bytes ha
    rw [h, readV_bytes hb] at h1
    exact (Option.some.inj h1).symm
  · rintro rfl; rfl
end Go.Proofs.Ytijjjdljdjnbaaa
