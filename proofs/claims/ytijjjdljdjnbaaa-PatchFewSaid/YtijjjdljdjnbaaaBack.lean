/- Bytes that were written are read as what they were written of. -/
import Derived.Test.YtijjjdljdjnbaaaSizes
namespace Go.Proofs.Ytijjjdljdjnbaaa
set_option maxRecDepth 100000
set_option linter.unusedVariables false
set_option linter.unusedSimpArgs false
open Go.Sx

theorem getElem!_app {l k : List Int} {i : Nat} (h : i < k.length) : (l ++ k)[l.length + i]! = k[i]! := by
  rw [getElem!_pos (l ++ k) (l.length + i) (by simp; omega), getElem!_pos k i h]
  simp
/-- the number that n bytes from the place j on make, behind v -/
theorem foldB_bytes (v : Int) (n : Nat) : ∀ (m j : Nat), j + m = n → foldB (v / 256 ^ (n - j)) ((List.range' j m).map (byteAt v n)) = v
  | 0, j, h => by
    have : n - j = 0 := by omega
    rw [this]; simp [foldB]
  | m + 1, j, h => by
    have e : foldB (v / 256 ^ (n - j)) ((List.range' j (m + 1)).map (byteAt v n)) = foldB (v / 256 ^ (n - j) * 256 + byteAt v n j) ((List.range' (j + 1) m).map (byteAt v n)) := rfl
    rw [e]
    have e2 : v / 256 ^ (n - j) * 256 + byteAt v n j = v / 256 ^ (n - (j + 1)) := by
      unfold byteAt
      rw [show n - j = (n - (j + 1)) + 1 by omega, show n - 1 - j = n - (j + 1) by omega, Int.pow_succ, ← Int.ediv_ediv_of_nonneg (Int.pow_nonneg (by omega))]
      omega
    rw [e2]
    exact foldB_bytes v n m (j + 1) (by omega)
theorem putL_head {v : Int} (h0 : 0 ≤ v) (h1 : v < 4611686018427387904) : putL v = (byteAt v (sizeS v) 0 + 64 * (classS v : Int)) :: (List.range' 1 (sizeS v - 1)).map (byteAt v (sizeS v)) := by
  have hz := sizeS_pos h1
  unfold putL
  obtain ⟨m, hm⟩ : ∃ m, sizeS v = m + 1 := ⟨sizeS v - 1, by omega⟩
  rw [hm, List.range_succ_eq_map]
  simp only [List.map_cons, if_true, List.map_map, Nat.add_sub_cancel]
  congr 1
  rw [List.range'_eq_map_range, List.map_map]
  refine List.map_congr_left fun j hj => ?_
  simp [Nat.add_comm]
theorem manyS_put {v : Int} (h0 : 0 ≤ v) (h1 : v < 4611686018427387904) : manyS (byteAt v (sizeS v) 0 + 64 * (classS v : Int)) = sizeS v ∧ (byteAt v (sizeS v) 0 + 64 * (classS v : Int)) % 64 = byteAt v (sizeS v) 0 := by
  have hz := sizeS_pos h1
  obtain ⟨hb0, hb1⟩ := byte0_lt v h0 (by omega)
  obtain ⟨hc, hs⟩ := class_of_size (v := v) (by omega)
  refine ⟨?_, by omega⟩
  unfold manyS
  have : ((byteAt v (sizeS v) 0 + 64 * (classS v : Int)) / 64).toNat = classS v := by omega
  rw [this, ← hs]
theorem getS_put (l r : List Int) {v : Int} (h0 : 0 ≤ v) (h1 : v < 4611686018427387904) : getS (l ++ (putL v ++ r)) l.length = (v, (l.length : Int) + sizeS v, 0) := by
  have hz := sizeS_pos h1
  obtain ⟨hm1, hm2⟩ := manyS_put h0 h1
  obtain ⟨hb0, hb1⟩ := byte0_lt v h0 (by omega)
  have hp := putL_head h0 h1
  have hlen := putL_len v
  have hx : (l ++ (putL v ++ r))[l.length]! = byteAt v (sizeS v) 0 + 64 * (classS v : Int) := by
    rw [hp]
    rw [getElem!_pos _ _ (by simp)]
    simp
  have htake : ((l ++ (putL v ++ r)).drop (l.length + 1)).take (sizeS v - 1) = (List.range' 1 (sizeS v - 1)).map (byteAt v (sizeS v)) := by
    rw [List.drop_append, List.drop_eq_nil_of_le (by omega), List.nil_append, show l.length + 1 - l.length = 1 by omega, hp, List.cons_append, List.drop_succ_cons, List.drop_zero]
    rw [List.take_append_of_le_length (by simp), List.take_of_length_le (by simp)]
  unfold getS
  have hl : (l ++ (putL v ++ r)).length = l.length + (sizeS v + r.length) := by simp [hlen]
  rw [if_neg (by rw [hl]; omega), if_neg (by rw [hl]; omega)]
  simp only [Int.toNat_natCast]
  rw [hx, hm1, hm2, if_neg (by rw [hl]; omega), htake]
  have hf : foldB (byteAt v (sizeS v) 0) ((List.range' 1 (sizeS v - 1)).map (byteAt v (sizeS v))) = v := by
    have h := foldB_bytes v (sizeS v) (sizeS v - 1) 1 (by omega)
    have e : v / 256 ^ (sizeS v - 1) = byteAt v (sizeS v) 0 := by
      unfold byteAt
      have hq : v / 256 ^ (sizeS v - 1) < 256 := by
        unfold sizeS classS at *
        (repeat' split) <;> simp_all <;> omega
      have hq0 : 0 ≤ v / 256 ^ (sizeS v - 1) := Int.ediv_nonneg h0 (Int.pow_nonneg (by omega))
      rw [Nat.sub_zero, Int.emod_eq_of_lt hq0 hq]
    rw [e] at h
    exact h
  rw [hf]
  simp
end Go.Proofs.Ytijjjdljdjnbaaa
