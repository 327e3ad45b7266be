/- QNcb: GriQ, GrrA, GrrB, GrrC, GrrD, GrrE, GrrF. -/
import Derived.ChangeKeysEq
import Derived.Test.YtpmapedhigjalaaRca
import Derived.Test.YtpmapedhigjalaaRcb
import Derived.Test.YtpmapedhigjalaaRcc
import Derived.Test.YtpmapedhigjalaaRcd
section
/- A grid as one thing: Down, Insert, Delete, Resize. -/
namespace Go.Proofs.Ytpmapedhigjalaa
set_option maxRecDepth 100000
set_option linter.unusedVariables false
set_option linter.unusedSimpArgs false
open Go.Sx

def Gd.down (g : Gd) (t u n : Int) (x : Cell) : Gd := if g.rows t u n then ⟨g.r, g.c, fun i k => if t ≤ i ∧ (i : Int) ≤ u then (if t ≤ (i : Int) - n then g.f (i - n).toNat k else x) else g.f i k⟩ else g
theorem down_g (E : Env) (b : Nat) (g : Gd) (t u n p f gg q : Int) : Does Try.prog 25 #[.pointer (some ⟨b, 0, none⟩), .int .i64 t, .int .i64 u, .int .i64 n, .agg #[.int .i32 p, .int .u8 f, .int .u32 gg, .int .u32 q]] E ([gridP b g]) fun r H' => r = .int .i64 (erI (g.rows t u n)) ∧ H' = [gridP b (g.down t u n ⟨p, f, gg, q⟩)] := by
  by_cases h : g.rows t u n
  · have h' := h
    obtain ⟨h1, h2, h3, h4⟩ := h
    obtain ⟨t, rfl⟩ := Int.eq_ofNat_of_zero_le h1
    obtain ⟨u, rfl⟩ := Int.eq_ofNat_of_zero_le (show 0 ≤ u by omega)
    obtain ⟨n, rfl⟩ := Int.eq_ofNat_of_zero_le h4
    refine Does.grid fun ok a c rs hr hf hl => ?_
    refine Does.post (gdown_ok E b g.c a rs.length c rs hf t u n p f gg q (by rw [rowsE_g ok hl, erI_pos h'])) ?_
    rintro r H' ⟨z, hz, hzc, rfl, rfl⟩
    rw [Gd.down, if_pos h', erI_pos h']
    refine ⟨_, fun w s => ?_, rfl, rfl⟩
    have hzz : z.map Row.cs = List.replicate (min n (u + 1 - t)) (tabR g.c fun _ => ⟨p, f, gg, q⟩) := by
      rw [← hz, List.eq_replicate_iff]
      refine ⟨by simp, fun x hx => ?_⟩
      obtain ⟨y, hy, rfl⟩ := List.mem_map.1 hx
      rw [hzc y hy, ← rep_tabR]; rfl
    refine gridA_post ok (rsD_len (Nat.min_le_right _ _) (by omega) hz) ?_ E w s
    unfold rsD
    simp only [List.map_append, List.map_take, List.map_drop, hr, hzz, Gd.css]
    refine tab_eq fun i => ?_
    simp only [List.getElem?_append, List.getElem?_take, List.getElem?_drop, List.getElem?_replicate, List.length_take, List.length_drop, List.length_replicate, tab_len, tab_get]
    by_cases a1 : i < t
    · rw [if_pos (by omega), if_pos a1]
      simp only [show i < g.r by omega, show ¬ ((t : Int) ≤ i ∧ (i : Int) ≤ u) by omega, if_true, if_false]
    · rw [if_neg (by omega)]
      by_cases a2 : i < t + min n (u + 1 - t)
      · rw [if_pos (by omega), if_pos (by omega), if_pos (by omega)]
        simp only [show ((t : Int) ≤ i ∧ (i : Int) ≤ u) by omega, show ¬ (t : Int) ≤ (i : Int) - n by omega, and_self, if_true, if_false]
      · rw [if_neg (by omega)]
        by_cases a3 : i ≤ u
        · rw [if_pos (by omega), if_pos (by omega), if_pos (by omega), if_pos (by omega)]
          simp only [show ((t : Int) ≤ i ∧ (i : Int) ≤ u) by omega, show (t : Int) ≤ (i : Int) - n by omega, and_self, if_true, show ((i : Int) - n).toNat = t + (i - min t g.r - min n (u + 1 - t)) by omega]
        · rw [if_neg (by omega)]
          simp only [show ¬ ((t : Int) ≤ i ∧ (i : Int) ≤ u) by omega, if_false, show t + (u + 1 - t) + (i - min t g.r - min n (u + 1 - t) - min (u + 1 - t - min n (u + 1 - t)) (g.r - t)) = i by omega]
  · rw [Gd.down, if_neg h, erI_neg h]
    refine Does.gridO _ fun ok E' a m c hm => ?_
    have := gdown_no E' b g.c a m c t u n p f gg q (by rw [rowsE_g ok hm]; exact erI_ne h)
    rwa [rowsE_g ok hm, erI_neg h] at this
def Gd.ins (g : Gd) (row col n : Int) (x : Cell) : Gd := if g.has row col ∧ 0 ≤ n then ⟨g.r, g.c, fun i k => if (i : Int) = row ∧ col ≤ k then (if col ≤ (k : Int) - n then g.f i (k - n).toNat else x) else g.f i k⟩ else g
theorem insert_g (E : Env) (b : Nat) (g : Gd) (row col n p f gg q : Int) : Does Try.prog 26 #[.pointer (some ⟨b, 0, none⟩), .int .i64 row, .int .i64 col, .int .i64 n, .agg #[.int .i32 p, .int .u8 f, .int .u32 gg, .int .u32 q]] E ([gridP b g]) fun r H' => r = .int .i64 (erI (g.has row col ∧ 0 ≤ n)) ∧ H' = [gridP b (g.ins row col n ⟨p, f, gg, q⟩)] := by
  by_cases h : g.has row col ∧ 0 ≤ n
  · have h' := h
    obtain ⟨⟨h1, h2, h3, h4⟩, h5⟩ := h
    obtain ⟨i, rfl⟩ := Int.eq_ofNat_of_zero_le h1
    obtain ⟨k, rfl⟩ := Int.eq_ofNat_of_zero_le h3
    obtain ⟨n, rfl⟩ := Int.eq_ofNat_of_zero_le h5
    refine Does.grid fun ok a c rs hr hf hl => ?_
    refine Does.post (ginsert_ok E b g.c a rs.length c rs hf i k n p f gg q (by rw [cellsE_g ok hl, erI_pos h'])) ?_
    rintro r H' ⟨rfl, rfl⟩
    rw [Gd.ins, if_pos h', erI_pos h']
    refine ⟨_, fun w s => ?_, rfl, rfl⟩
    refine gridA_post ok (setC_len _) (setC_css hr (by omega) ?_ ?_) E w s
    · rw [row_cs hr (by omega), tabR_len]
      refine tabR_eq fun j => ?_
      unfold insR
      simp only [List.getElem?_append, List.getElem?_take, List.getElem?_drop, List.getElem?_replicate, List.length_take, List.length_drop, List.length_replicate, tabR_len, tabR_get]
      by_cases a0 : j < g.c
      · simp only [a0, if_true]
        by_cases a1 : j < k
        · rw [if_pos (by omega), if_pos a1]
          simp only [show ¬ ((k : Int) ≤ j) by omega, and_false, if_false]
        · rw [if_neg (by omega)]
          by_cases a2 : j < k + min n (g.c - k)
          · rw [if_pos (by omega), if_pos (by omega)]
            simp only [show (k : Int) ≤ j by omega, show ¬ (k : Int) ≤ (j : Int) - n by omega, if_true, if_false, and_self]
          · rw [if_neg (by omega), if_pos (by omega), if_pos (by omega)]
            simp only [show (k : Int) ≤ j by omega, show (k : Int) ≤ (j : Int) - n by omega, if_true, and_self, show ((j : Int) - n).toNat = k + (j - min k g.c - min n (g.c - k)) by omega]
      · rw [if_neg (by omega), if_neg (by omega), if_neg (by omega)]; simp only [a0, if_false]
    · intro j hj; funext k; simp only [show ¬ ((j : Int) = i) by omega, false_and, if_false]
  · rw [Gd.ins, if_neg h, erI_neg h]
    refine Does.gridO _ fun ok E' a m c hm => ?_
    have := ginsert_no E' b g.c a m c row col n p f gg q (by rw [cellsE_g ok hm]; exact erI_ne h)
    rwa [cellsE_g ok hm, erI_neg h] at this
def Gd.del (g : Gd) (row col n : Int) (x : Cell) : Gd := if g.has row col ∧ 0 ≤ n then ⟨g.r, g.c, fun i k => if (i : Int) = row ∧ col ≤ k then (if (k : Int) + n < g.c then g.f i (k + n).toNat else x) else g.f i k⟩ else g
theorem delete_g (E : Env) (b : Nat) (g : Gd) (row col n p f gg q : Int) : Does Try.prog 27 #[.pointer (some ⟨b, 0, none⟩), .int .i64 row, .int .i64 col, .int .i64 n, .agg #[.int .i32 p, .int .u8 f, .int .u32 gg, .int .u32 q]] E ([gridP b g]) fun r H' => r = .int .i64 (erI (g.has row col ∧ 0 ≤ n)) ∧ H' = [gridP b (g.del row col n ⟨p, f, gg, q⟩)] := by
  by_cases h : g.has row col ∧ 0 ≤ n
  · have h' := h
    obtain ⟨⟨h1, h2, h3, h4⟩, h5⟩ := h
    obtain ⟨i, rfl⟩ := Int.eq_ofNat_of_zero_le h1
    obtain ⟨k, rfl⟩ := Int.eq_ofNat_of_zero_le h3
    obtain ⟨n, rfl⟩ := Int.eq_ofNat_of_zero_le h5
    refine Does.grid fun ok a c rs hr hf hl => ?_
    refine Does.post (gdelete_ok E b g.c a rs.length c rs hf i k n p f gg q (by rw [cellsE_g ok hl, erI_pos h'])) ?_
    rintro r H' ⟨rfl, rfl⟩
    rw [Gd.del, if_pos h', erI_pos h']
    refine ⟨_, fun w s => ?_, rfl, rfl⟩
    refine gridA_post ok (setC_len _) (setC_css hr (by omega) ?_ ?_) E w s
    · rw [row_cs hr (by omega), tabR_len]
      refine tabR_eq fun j => ?_
      unfold delR
      simp only [List.getElem?_append, List.getElem?_take, List.getElem?_drop, List.getElem?_replicate, List.length_take, List.length_drop, List.length_replicate, tabR_len, tabR_get]
      by_cases a0 : j < g.c
      · simp only [a0, if_true]
        by_cases a1 : j < k
        · rw [if_pos (by omega), if_pos a1]
          simp only [show ¬ ((k : Int) ≤ j) by omega, and_false, if_false]
        · rw [if_neg (by omega)]
          by_cases a2 : j + min n (g.c - k) < g.c
          · rw [if_pos (by omega), if_pos (by omega)]
            simp only [show (k : Int) ≤ j by omega, show (j : Int) + n < g.c by omega, if_true, and_self, show ((j : Int) + n).toNat = k + min n (g.c - k) + (j - min k g.c) by omega]
          · rw [if_neg (by omega), if_pos (by omega)]
            simp only [show (k : Int) ≤ j by omega, show ¬ (j : Int) + n < g.c by omega, if_true, if_false, and_self]
      · rw [if_neg (by omega), if_neg (by omega), if_neg (by omega)]; simp only [a0, if_false]
    · intro j hj; funext k; simp only [show ¬ ((j : Int) = i) by omega, false_and, if_false]
  · rw [Gd.del, if_neg h, erI_neg h]
    refine Does.gridO _ fun ok E' a m c hm => ?_
    have := gdelete_no E' b g.c a m c row col n p f gg q (by rw [cellsE_g ok hm]; exact erI_ne h)
    rwa [cellsE_g ok hm, erI_neg h] at this
def Gd.rsz (g : Gd) (rows cols : Int) (x : Cell) : Gd := if fitsG rows cols then ⟨rows.toNat, cols.toNat, fun i k => if i < g.r ∧ k < g.c then g.f i k else x⟩ else g
theorem resize_g (E : Env) (b : Nat) (g : Gd) (t u p f gg q : Int) : Does Try.prog 31 #[.pointer (some ⟨b, 0, none⟩), .int .i64 t, .int .i64 u, .agg #[.int .i32 p, .int .u8 f, .int .u32 gg, .int .u32 q]] E ([gridP b g]) fun r H' => r = .int .i64 (erI (fitsG t u)) ∧ H' = [gridP b (g.rsz t u ⟨p, f, gg, q⟩)] := by
  cases h : fitsG t u
  · rw [Gd.rsz, if_neg (by simp [h]), erI_neg (by simp)]
    refine Does.gridO _ fun ok E' a m c hm => ?_
    exact gresize_no E' b g.c a m c t u p f gg q (by have := ok.r; omega) h
  · refine Does.grid fun ok a c rs hr hf hl => ?_
    have hb : 1 ≤ t ∧ t ≤ 12 ∧ 1 ≤ u ∧ u ≤ 40 := by simpa [fitsG] using h
    refine Does.post (gresize_ok E b g.c a rs.length c rs hf t u p f gg q h) ?_
    rintro r H' ⟨a', c', rs', hrs, rfl, rfl⟩
    rw [Gd.rsz, if_pos h, erI_pos rfl]
    refine ⟨_, fun w s => gridP_in (g := ⟨_, _, _⟩) ⟨by dsimp only; omega, by dsimp only; omega⟩ ?_ (by rw [show ((u.toNat : Nat) : Int) = u by omega]; simpa using s), rfl, rfl⟩
    rw [hrs, hr]
    refine tab_eq fun i => ?_
    unfold rszR
    rw [List.getElem?_map]
    by_cases a1 : i < t.toNat
    · rw [List.getElem?_range a1, if_pos a1, Option.map_some]
      congr 1
      refine tabR_eq fun k => ?_
      unfold fitR
      rw [List.getD_eq_getElem?_getD, Gd.css, tab_get]
      by_cases a2 : i < g.r
      · simp only [a2, if_true, Option.getD_some, List.getElem?_append, List.getElem?_take, List.getElem?_replicate, List.length_take, tabR_len, tabR_get, true_and]
        by_cases a3 : k < u.toNat
        · by_cases a4 : k < g.c
          · simp only [a3, a4, if_true]; rw [if_pos (by omega)]
          · simp only [a3, a4, if_true, if_false]; rw [if_neg (by omega), if_pos (by omega)]
        · rw [if_neg (by omega), if_neg (by omega)]; simp only [a3, if_false]
      · simp only [a2, if_false, Option.getD_none, List.take_nil, List.nil_append, List.getElem?_replicate, List.length_nil, Nat.sub_zero, false_and]
    · rw [List.getElem?_eq_none (by simp; omega), if_neg a1]; rfl
end Go.Proofs.Ytpmapedhigjalaa
end
section
/- The document's grid: New, Put, Fill. -/
namespace Go.Proofs.Ytpmapedhigjalaa
set_option maxRecDepth 100000
set_option linter.unusedVariables false
set_option linter.unusedSimpArgs false
open Go.Sx

def Gd.flat (g : Gd) : List Cell := (List.range (g.r * g.c)).map fun j => g.f (j / g.c) (j % g.c)
theorem rnew_no (E : Env) (rows cols : Int) (hf : fitsG rows cols = false) : Does Try.prog 13 #[.int .i64 rows, .int .i64 cols] E ([]) fun r H' => r = .tuple #[.agg #[.int .i64 0, .int .i64 0, .slice none 0 0], .int .i64 1] ∧ H' = [] := by
  have hb : rows < 1 ∨ 12 < rows ∨ cols < 1 ∨ 40 < cols := by simp [fitsG] at hf; omega
  refine Does.go _ _ Try.func13 rfl Try.ntmps13 rfl rfl ?_
  refine Body.seq ?_
  refine Body.region ?_
  refine Ops.s (Stp.alloc ty29 (fun b4 => ?_)) rfl
  refine Ops.u (Dtu.asg (lk rfl)) rfl ?_
  refine Ops.nil ?_
  refine Then.next ?_
  refine Body.seq ?_
  refine Body.seq ?_
  refine Body.region ?_
  refine Ops.u (Dtu.mv (lk rfl)) rfl ?_
  refine Ops.u (Dtu.lss (lk rfl) (lk rfl)) rfl ?_
  refine Ops.u (Dtu.mv (lk rfl)) rfl ?_
  refine Ops.decP 10 rfl (fun c10 => ?_) (fun c10 => ?_)
  · refine Ops.gn rfl rfl rfl rfl rfl ?_
    refine Ops.gn rfl rfl rfl rfl rfl ?_
    refine Ops.u (Dtu.pickT (lk rfl) (lk rfl)) rfl ?_
    refine Ops.u (Dtu.mv (lk rfl)) rfl ?_
    refine Ops.gn rfl rfl rfl rfl rfl ?_
    refine Ops.gn rfl rfl rfl rfl rfl ?_
    refine Ops.u (Dtu.pickT (lk rfl) (lk rfl)) rfl ?_
    refine Ops.u (Dtu.mv (lk rfl)) rfl ?_
    refine Ops.gn rfl rfl rfl rfl rfl ?_
    refine Ops.gn rfl rfl rfl rfl rfl ?_
    refine Ops.u (Dtu.pickT (lk rfl) (lk rfl)) rfl ?_
    refine Ops.nil ?_
    refine Then.next ?_
    refine Body.condT (lk rfl) ?_
    refine Body.seq ?_
    refine Body.region ?_
    refine Ops.u (Dtu.build ty29 pl29 (lkp rfl) rfl rfl) rfl ?_
    refine Ops.e (Stp.store 0 Try.sizeOf29 (lk rfl) (lk rfl) rfl rfl rfl rfl rfl rfl rfl ?_)
    refine Ops.u (Dtu.asg (lk rfl)) rfl ?_
    refine Ops.nil ?_
    refine Then.next ?_
    refine Body.ret ?_
    refine Then.ret ?_
    exact ⟨.inr rfl, _, Loads.agg Try.isAgg29 Try.sizeOf29 (Rds.ow (m := 3) 0 rfl rfl) rfl, _, pk [] rfl, rfl, rfl⟩
  · refine Ops.gu rfl rfl rfl (Dtu.mv (lk rfl)) rfl ?_
    refine Ops.gu rfl rfl rfl (Dtu.gtr (lk rfl) (lk rfl)) rfl ?_
    refine Ops.u (Dtu.pickF (lk rfl) (lk rfl)) rfl ?_
    refine Ops.u (Dtu.mv (lk rfl)) rfl ?_
    refine Ops.decP 14 rfl (fun c14 => ?_) (fun c14 => ?_)
    · refine Ops.gn rfl rfl rfl rfl rfl ?_
      refine Ops.gn rfl rfl rfl rfl rfl ?_
      refine Ops.u (Dtu.pickT (lk rfl) (lk rfl)) rfl ?_
      refine Ops.u (Dtu.mv (lk rfl)) rfl ?_
      refine Ops.gn rfl rfl rfl rfl rfl ?_
      refine Ops.gn rfl rfl rfl rfl rfl ?_
      refine Ops.u (Dtu.pickT (lk rfl) (lk rfl)) rfl ?_
      refine Ops.nil ?_
      refine Then.next ?_
      refine Body.condT (lk rfl) ?_
      refine Body.seq ?_
      refine Body.region ?_
      refine Ops.u (Dtu.build ty29 pl29 (lkp rfl) rfl rfl) rfl ?_
      refine Ops.e (Stp.store 0 Try.sizeOf29 (lk rfl) (lk rfl) rfl rfl rfl rfl rfl rfl rfl ?_)
      refine Ops.u (Dtu.asg (lk rfl)) rfl ?_
      refine Ops.nil ?_
      refine Then.next ?_
      refine Body.ret ?_
      refine Then.ret ?_
      exact ⟨.inr rfl, _, Loads.agg Try.isAgg29 Try.sizeOf29 (Rds.ow (m := 3) 0 rfl rfl) rfl, _, pk [] rfl, rfl, rfl⟩
    · refine Ops.gu rfl rfl rfl (Dtu.mv (lk rfl)) rfl ?_
      refine Ops.gu rfl rfl rfl (Dtu.lss (lk rfl) (lk rfl)) rfl ?_
      refine Ops.u (Dtu.pickF (lk rfl) (lk rfl)) rfl ?_
      refine Ops.u (Dtu.mv (lk rfl)) rfl ?_
      refine Ops.decP 18 rfl (fun c18 => ?_) (fun c18 => ?_)
      · refine Ops.gn rfl rfl rfl rfl rfl ?_
        refine Ops.gn rfl rfl rfl rfl rfl ?_
        refine Ops.u (Dtu.pickT (lk rfl) (lk rfl)) rfl ?_
        refine Ops.nil ?_
        refine Then.next ?_
        refine Body.condT (lk rfl) ?_
        refine Body.seq ?_
        refine Body.region ?_
        refine Ops.u (Dtu.build ty29 pl29 (lkp rfl) rfl rfl) rfl ?_
        refine Ops.e (Stp.store 0 Try.sizeOf29 (lk rfl) (lk rfl) rfl rfl rfl rfl rfl rfl rfl ?_)
        refine Ops.u (Dtu.asg (lk rfl)) rfl ?_
        refine Ops.nil ?_
        refine Then.next ?_
        refine Body.ret ?_
        refine Then.ret ?_
        exact ⟨.inr rfl, _, Loads.agg Try.isAgg29 Try.sizeOf29 (Rds.ow (m := 3) 0 rfl rfl) rfl, _, pk [] rfl, rfl, rfl⟩
      · refine Ops.gu rfl rfl rfl (Dtu.mv (lk rfl)) rfl ?_
        refine Ops.gu rfl rfl rfl (Dtu.gtr (lk rfl) (lk rfl)) rfl ?_
        refine Ops.u (Dtu.pickF (lk rfl) (lk rfl)) rfl ?_
        refine Ops.nil ?_
        refine Then.next ?_
        refine Body.condP (lk rfl) (fun _ => ?_) (fun hn => absurd (by first | omega | assumption | decide) hn)
        refine Body.seq ?_
        refine Body.region ?_
        refine Ops.u (Dtu.build ty29 pl29 (lkp rfl) rfl rfl) rfl ?_
        refine Ops.e (Stp.store 0 Try.sizeOf29 (lk rfl) (lk rfl) rfl rfl rfl rfl rfl rfl rfl ?_)
        refine Ops.u (Dtu.asg (lk rfl)) rfl ?_
        refine Ops.nil ?_
        refine Then.next ?_
        refine Body.ret ?_
        refine Then.ret ?_
        exact ⟨.inr rfl, _, Loads.agg Try.isAgg29 Try.sizeOf29 (Rds.ow (m := 3) 0 rfl rfl) rfl, _, pk [] rfl, rfl, rfl⟩
theorem idx_lt {r c i k : Nat} (hi : i < r) (hk : k < c) : i * c + k < r * c := by
  have : (i + 1) * c ≤ r * c := Nat.mul_le_mul_right c hi
  rw [Nat.succ_mul] at this; omega
theorem div_lt' {r c i : Nat} (h : i < r * c) : i / c < r := (Nat.div_lt_iff_lt_mul (Nat.pos_of_ne_zero fun e => by subst e; simp at h)).2 h
theorem area {g : Gd} (ok : g.Ok) : g.r * g.c ≤ 480 := Nat.mul_le_mul (n₁ := g.r) (m₁ := g.c) ok.r.2 ok.c.2
theorem flat_len' (g : Gd) : g.flat.length = g.r * g.c := by simp [Gd.flat]
theorem flat_get (g : Gd) (j : Nat) : g.flat[j]? = if j < g.r * g.c then some (g.f (j / g.c) (j % g.c)) else none := by
  unfold Gd.flat
  rw [List.getElem?_map]
  split
  · rename_i h; rw [List.getElem?_range h]; rfl
  · rename_i h; rw [List.getElem?_eq_none (by simp; omega)]; rfl
theorem flat_at {g : Gd} {j : Nat} (h : j < g.r * g.c) : g.flat[j]! = g.f (j / g.c) (j % g.c) := by
  rw [List.getElem!_eq_getElem?_getD, flat_get, if_pos h]; rfl
theorem flat_eq {g : Gd} {l : List Cell} (hl : l.length = g.r * g.c) (h : ∀ j, j < g.r * g.c → l[j]! = g.f (j / g.c) (j % g.c)) : l = g.flat :=
  List.ext_getElem? fun j => by
    rw [flat_get]; split
    · rename_i hj
      have := h j hj
      rw [getElem!_pos l j (by omega)] at this
      rw [List.getElem?_eq_getElem (by omega), this]
    · rw [List.getElem?_eq_none (by omega)]
theorem quoN (i c : Nat) : (i : Int).tdiv c = ((i / c : Nat) : Int) := by rw [Int.tdiv_eq_ediv_of_nonneg (by omega)]; rfl
theorem remN (i c : Nat) : (i : Int).tmod c = ((i % c : Nat) : Int) := by rw [Int.tmod_eq_emod_of_nonneg (by omega)]; rfl
theorem wquo {i c : Nat} (h : i ≤ 480) : IntKind.i64.wrap ((i : Int).tdiv c) = ((i / c : Nat) : Int) := by
  have := Nat.div_le_self i c
  generalize hq : i / c = q at *
  rw [quoN, hq]; exact w64 (by omega) (by omega)
theorem pre_succ (F : Nat → Cell) (i : Nat) : ((List.range (i + 1)).map F).flatMap Cell.renc = ((List.range i).map F).flatMap Cell.renc ++ (F i).renc := by
  rw [List.range_succ, List.map_append, List.flatMap_append]; simp
structure RLs where
  i : Nat
  v : Value
structure RNew where
  i : Nat
  a : Option Addr
  c : Nat
theorem rnew_ok (E : Env) (rows cols : Int) (hf : fitsG rows cols = true) : Does Try.prog 13 #[.int .i64 rows, .int .i64 cols] E ([]) fun r H' => ∃ a c, r = .tuple #[.agg #[.int .i64 rows, .int .i64 cols, .slice a (rows.toNat * cols.toNat) c], .int .i64 0] ∧ H' = [osl 49 11 (.slice a (rows.toNat * cols.toNat) c) (rows.toNat * cols.toNat) ((List.replicate (rows.toNat * cols.toNat) Cell.blank).flatMap Cell.renc)] := by
  have hb : 1 ≤ rows ∧ rows ≤ 12 ∧ 1 ≤ cols ∧ cols ≤ 40 := by simpa [fitsG] using hf
  obtain ⟨r, rfl⟩ := Int.eq_ofNat_of_zero_le (show 0 ≤ rows by omega)
  obtain ⟨c, rfl⟩ := Int.eq_ofNat_of_zero_le (show 0 ≤ cols by omega)
  have hm : r * c ≤ 480 := by have := Nat.mul_le_mul (show r ≤ 12 by omega) (show c ≤ 40 by omega); omega
  refine Does.go _ _ Try.func13 rfl Try.ntmps13 rfl rfl ?_
  refine Body.seq ?_
  refine Body.region ?_
  refine Ops.s (Stp.alloc ty29 (fun b4 => ?_)) rfl
  refine Ops.u (Dtu.asg (lk rfl)) rfl ?_
  refine Ops.nil ?_
  refine Then.next ?_
  refine Body.seq ?_
  refine Body.seq ?_
  refine Body.region ?_
  refine Ops.u (Dtu.mv (lk rfl)) rfl ?_
  refine Ops.u (Dtu.lss (lk rfl) (lk rfl)) rfl ?_
  refine Ops.u (Dtu.mv (lk rfl)) rfl ?_
  refine Ops.decP 10 rfl (fun hy => absurd hy (by first | omega | assumption | decide)) (fun _ => ?_)
  refine Ops.gu rfl rfl rfl (Dtu.mv (lk rfl)) rfl ?_
  refine Ops.gu rfl rfl rfl (Dtu.gtr (lk rfl) (lk rfl)) rfl ?_
  refine Ops.u (Dtu.pickF (lk rfl) (lk rfl)) rfl ?_
  refine Ops.u (Dtu.mv (lk rfl)) rfl ?_
  refine Ops.decP 14 rfl (fun hy => absurd hy (by first | omega | assumption | decide)) (fun _ => ?_)
  refine Ops.gu rfl rfl rfl (Dtu.mv (lk rfl)) rfl ?_
  refine Ops.gu rfl rfl rfl (Dtu.lss (lk rfl) (lk rfl)) rfl ?_
  refine Ops.u (Dtu.pickF (lk rfl) (lk rfl)) rfl ?_
  refine Ops.u (Dtu.mv (lk rfl)) rfl ?_
  refine Ops.decP 18 rfl (fun hy => absurd hy (by first | omega | assumption | decide)) (fun _ => ?_)
  refine Ops.gu rfl rfl rfl (Dtu.mv (lk rfl)) rfl ?_
  refine Ops.gu rfl rfl rfl (Dtu.gtr (lk rfl) (lk rfl)) rfl ?_
  refine Ops.u (Dtu.pickF (lk rfl) (lk rfl)) rfl ?_
  refine Ops.nil ?_
  refine Then.next ?_
  refine Body.condP (lk rfl) (fun hy => absurd hy (by first | omega | assumption | decide)) (fun _ => ?_)
  refine Body.skip ?_
  refine Then.next ?_
  refine Body.seq ?_
  refine Body.region ?_
  refine Ops.u (Dtu.mv (lk rfl)) rfl ?_
  refine Ops.u (Dtu.mv (lk rfl)) rfl ?_
  refine Ops.u (Dtu.build ty29 pl29 (lkp rfl) rfl rfl) rfl ?_
  refine Ops.s (Stp.alloc ty29 (fun b6 => ?_)) rfl
  refine Ops.e (Stp.store 0 Try.sizeOf29 (lk rfl) (lk rfl) rfl rfl rfl rfl rfl rfl rfl ?_)
  refine Ops.nil ?_
  refine Then.next ?_
  refine Body.seq ?_
  refine Body.seq ?_
  refine Body.region ?_
  refine Ops.u (Dtu.asg (lk rfl)) rfl ?_
  refine Ops.nil ?_
  refine Then.next ?_
  refine Body.block ?_
  refine Body.conseq (fun w s => osl_nil (t := 49) (sz := 11) (a := none) s) ?_
  refine Body.loopH (γ := RNew) rfl (fun s => [(7, .int .i64 s.i)]) (fun s => [(0, osl 49 11 (.slice s.a s.i s.c) s.i ((List.replicate s.i Cell.blank).flatMap Cell.renc)), (1, own b6 [.int .i64 r, .int .i64 c, .slice s.a s.i s.c] 29)]) (fun s => s.i ≤ r * c) (fun s => r * c - s.i) (⟨0, none, 0⟩) (Nat.zero_le _) ⟨rfl, trivial⟩ rfl ?_
  rintro ⟨i, a, c'⟩ u hi
  dsimp only at hi ⊢
  refine Body.seq ?_
  refine Body.seq ?_
  refine Body.region ?_
  refine Ops.u (Dtu.mv (lk rfl)) rfl ?_
  refine Ops.u (Dtu.mv (lk rfl)) rfl ?_
  refine Ops.u (Dtu.mv (lk rfl)) rfl ?_
  refine Ops.u (Dtu.mul (lk rfl) (lk rfl) (w64 (by omega) (by omega))) rfl ?_
  refine Ops.u (Dtu.lss (lk rfl) (lk rfl)) rfl ?_
  refine Ops.nil ?_
  refine Then.next ?_
  refine Body.condP (lk rfl) (fun c30 => ?_) (fun c30 => ?_)
  · refine Body.skip ?_
    refine Then.next ?_
    refine Body.seq ?_
    refine Body.block ?_
    refine Body.region ?_
    refine Ops.u (Dtu.fld fa29_2 (lk rfl)) rfl ?_
    refine Ops.d (Det.ld Try.isAgg27 (lk rfl) (Rd.ow 1 rfl rfl)) rfl ?_
    refine Ops.u (Dtu.build ty49 pl49 (lkp rfl) rfl rfl) rfl ?_
    refine Ops.s (Stp.buildSliceO Try.underlying27 ty49 (by decide) (by decide) (lkp rfl) rfl rfl rfl (by decide) (fun v36 => ?_)) rfl
    refine Ops.s (Stp.append 1 Try.underlying27 ty49 rfl rfl (lk rfl) (lk rfl) (Sl.osl 0 rfl) (by first | rfl | exact all_map (fun _ => rfl) _ | exact all_flat (fun _ => rfl) _) (by omega) (by omega) (fun v37 => ?_)) rfl
    refine Ops.u (Dtu.fld fa29_2 (lk rfl)) rfl ?_
    refine Ops.pure (Sl.shape (Sl.osl 1 rfl)) fun hslv37 => ?_
    obtain ⟨v37a, v37c, rfl⟩ := hslv37
    refine Ops.e (Stp.store 2 Try.sizeOf27 (lk rfl) (lk rfl) rfl rfl rfl rfl rfl rfl rfl ?_)
    refine Ops.nil ?_
    refine Blk.norm ?_
    refine Then.next ?_
    refine Body.region ?_
    refine Ops.u (Dtu.mv (lk rfl)) rfl ?_
    refine Ops.u (Dtu.add (lk rfl) (lk rfl) (w64 (by omega) (by omega))) rfl ?_
    refine Ops.u (Dtu.asg (lk rfl)) rfl ?_
    refine Ops.nil ?_
    have e : List.flatMap Cell.renc (List.replicate i Cell.blank) ++ Cell.blank.renc = (List.replicate (i + 1) Cell.blank).flatMap Cell.renc := by
      rw [List.replicate_succ', List.flatMap_append]; simp
    exact Round.goW ⟨i + 1, v37a, v37c⟩ rfl rfl rfl ⟨rfl, trivial⟩ (fun w s => by dsimp only; rw [← e]; exact pk [1, 1, 1] rfl w s) (by dsimp only; omega) (by dsimp only; omega)
  · have hic : i = r * c := by omega
    subst hic
    refine Body.exit ?_
    refine Then.exit ?_
    refine Round.exit ?_
    refine Blk.here ?_
    refine Then.next ?_
    refine Body.seq ?_
    refine Body.region ?_
    refine Ops.d (Det.lda Try.isAgg29 Try.sizeOf29 (lk rfl) (Rds.ow (m := 3) 1 rfl rfl) rfl) rfl ?_
    refine Ops.e (Stp.store 2 Try.sizeOf29 (lk rfl) (lk rfl) rfl rfl rfl rfl rfl rfl rfl ?_)
    refine Ops.u (Dtu.asg (lk rfl)) rfl ?_
    refine Ops.nil ?_
    refine Then.next ?_
    refine Body.ret ?_
    exact ⟨.inr rfl, _, Loads.agg Try.isAgg29 Try.sizeOf29 (Rds.ow (m := 3) 2 rfl rfl) rfl, _, pk [0] rfl, a, c', rfl, rfl⟩
theorem rfill_ok (E : Env) (g : Gd) (v : Value) (row lo up pt fl fg bg : Int) (ok : g.Ok) (hh : g.has row 0) (hL : Sl E [] 11 v (g.r * g.c) (g.flat.flatMap Cell.renc)) : Does Try.prog 76 #[.agg #[.int .i64 g.r, .int .i64 g.c, v], .int .i64 row, .int .i64 lo, .int .i64 up, .agg (Cell.renc ⟨pt, fl, fg, bg⟩).toArray] E ([]) fun r H' => ∃ a c, r = .tuple #[.agg #[.int .i64 g.r, .int .i64 g.c, .slice a (g.r * g.c) c], .int .i64 0] ∧ H' = [osl 49 11 (.slice a (g.r * g.c) c) (g.r * g.c) ((g.fill row lo up ⟨pt, fl, fg, bg⟩).flat.flatMap Cell.renc)] := by
  have hb := ok.r
  have hc := ok.c
  have ha := area ok
  have h' := hh
  obtain ⟨h1, h2, h3, h4⟩ := hh
  obtain ⟨i0, rfl⟩ := Int.eq_ofNat_of_zero_le h1
  refine Does.go _ _ Try.func76 rfl Try.ntmps76 rfl rfl ?_
  refine Body.seq ?_
  refine Body.region ?_
  refine Ops.s (Stp.box (lk rfl) rfl (fun b5 => ?_)) rfl
  refine Ops.s (Stp.box (lk rfl) rfl (fun b9 => ?_)) rfl
  refine Ops.s (Stp.alloc ty29 (fun b10 => ?_)) rfl
  refine Ops.u (Dtu.asg (lk rfl)) rfl ?_
  refine Ops.nil ?_
  refine Then.next ?_
  refine Body.seq ?_
  refine Body.seq ?_
  refine Body.region ?_
  refine Ops.d (Det.lda Try.isAgg29 Try.sizeOf29 (lk rfl) (Rds.ow (m := 3) 2 rfl rfl) rfl) rfl ?_
  refine Ops.u (Dtu.mv (lk rfl)) rfl ?_
  refine Ops.s (Stp.inline _ _ Try.func17 rfl Try.ntmps17 rfl rfl rfl Try.call17 (lks rfl) ?_) rfl
  refine Body.seq ?_
  refine Body.region ?_
  refine Ops.s (Stp.box (lk rfl) rfl (fun b3 => ?_)) rfl
  refine Ops.u (Dtu.asg (lk rfl)) rfl ?_
  refine Ops.nil ?_
  refine Then.next ?_
  refine Body.seq ?_
  refine Body.region ?_
  refine Ops.u (Dtu.mv (lk rfl)) rfl ?_
  refine Ops.u (Dtu.geq (lk rfl) (lk rfl)) rfl ?_
  refine Ops.u (Dtu.mv (lk rfl)) rfl ?_
  refine Ops.decP 9 rfl (fun _ => ?_) (fun hn => absurd (by first | omega | assumption | decide) hn)
  refine Ops.gu rfl rfl rfl (Dtu.mv (lk rfl)) rfl ?_
  refine Ops.gu rfl rfl rfl (Dtu.fld fa29_0 (lk rfl)) rfl ?_
  refine Ops.gd rfl rfl rfl (Det.ld Try.isAgg3 (lk rfl) (Rd.ow 0 rfl rfl)) rfl ?_
  refine Ops.gu rfl rfl rfl (Dtu.lss (lk rfl) (lk rfl)) rfl ?_
  refine Ops.u (Dtu.pickT (lk rfl) (lk rfl)) rfl ?_
  refine Ops.u (Dtu.mv (lk rfl)) rfl ?_
  refine Ops.decP 15 rfl (fun _ => ?_) (fun hn => absurd (by first | omega | assumption | decide) hn)
  refine Ops.gu rfl rfl rfl (Dtu.mv (lk rfl)) rfl ?_
  refine Ops.gu rfl rfl rfl (Dtu.geq (lk rfl) (lk rfl)) rfl ?_
  refine Ops.u (Dtu.pickT (lk rfl) (lk rfl)) rfl ?_
  refine Ops.u (Dtu.mv (lk rfl)) rfl ?_
  refine Ops.decP 19 rfl (fun _ => ?_) (fun hn => absurd (by first | omega | assumption | decide) hn)
  refine Ops.gu rfl rfl rfl (Dtu.mv (lk rfl)) rfl ?_
  refine Ops.gu rfl rfl rfl (Dtu.fld fa29_1 (lk rfl)) rfl ?_
  refine Ops.gd rfl rfl rfl (Det.ld Try.isAgg3 (lk rfl) (Rd.ow 0 rfl rfl)) rfl ?_
  refine Ops.gu rfl rfl rfl (Dtu.lss (lk rfl) (lk rfl)) rfl ?_
  refine Ops.u (Dtu.pickT (lk rfl) (lk rfl)) rfl ?_
  refine Ops.u (Dtu.asg (lk rfl)) rfl ?_
  refine Ops.nil ?_
  refine Then.next ?_
  refine Body.ret ?_
  refine RetK.r1 rfl ?_
  refine Ops.conseq (pk [1, 1, 1] rfl) ?_
  refine Ops.u (Dtu.notP (lk rfl)) rfl ?_
  refine Ops.nil ?_
  refine Then.next ?_
  refine Body.condP (lk rfl) (fun hy => absurd hy (by first | omega | assumption | decide)) (fun _ => ?_)
  refine Body.skip ?_
  refine Then.next ?_
  refine Body.seq ?_
  refine Body.region ?_
  refine Ops.u (Dtu.asg (lk rfl)) rfl ?_
  refine Ops.nil ?_
  refine Then.next ?_
  refine Body.seq ?_
  refine Body.seq ?_
  refine Body.region ?_
  refine Ops.u (Dtu.asg (lk rfl)) rfl ?_
  refine Ops.nil ?_
  refine Then.next ?_
  refine Body.block ?_
  refine Body.conseq (fun w s => osl_nil (t := 49) (sz := 11) (a := none) s) ?_
  refine Body.loopH (γ := RLs) rfl (fun s => [(13, .int .i64 s.i), (12, s.v)]) (fun s => [(0, osl 49 11 s.v s.i (((List.range s.i).map fun j => (g.fill i0 lo up ⟨pt, fl, fg, bg⟩).f (j / g.c) (j % g.c)).flatMap Cell.renc))]) (fun s => s.i ≤ g.r * g.c) (fun s => g.r * g.c - s.i) (⟨0, .slice none 0 0⟩) (Nat.zero_le _) ⟨rfl, rfl, trivial⟩ rfl ?_
  rintro ⟨i, l⟩ u hi
  dsimp only at hi ⊢
  have hfl := flat_len' g
  by_cases hlt : i < g.r * g.c
  · have hq := wquo (c := g.c) (show i ≤ 480 by omega)
    have hr := remN i g.c
    have hx := flat_at hlt
    have hs := pre_succ (fun j => (g.fill i0 lo up ⟨pt, fl, fg, bg⟩).f (j / g.c) (j % g.c)) i
    have hF1 : (((i / g.c : Nat) : Int) = i0 ∧ lo ≤ ((i % g.c : Nat) : Int) ∧ ((i % g.c : Nat) : Int) < up) → (g.fill i0 lo up ⟨pt, fl, fg, bg⟩).f (i / g.c) (i % g.c) = ⟨pt, fl, fg, bg⟩ := fun h => by rw [Gd.fill, if_pos h']; exact if_pos h
    have hF2 : ¬ (((i / g.c : Nat) : Int) = i0 ∧ lo ≤ ((i % g.c : Nat) : Int) ∧ ((i % g.c : Nat) : Int) < up) → (g.fill i0 lo up ⟨pt, fl, fg, bg⟩).f (i / g.c) (i % g.c) = g.flat[i]! := fun h => by rw [Gd.fill, if_pos h', hx]; exact if_neg h
    refine Body.seq ?_
    refine Body.seq ?_
    refine Body.region ?_
    refine Ops.u (Dtu.mv (lk rfl)) rfl ?_
    refine Ops.u (Dtu.fld fa29_2 (lk rfl)) rfl ?_
    refine Ops.d (Det.ld Try.isAgg27 (lk rfl) (Rd.ow 3 rfl rfl)) rfl ?_
    refine Ops.u (Dtu.lenS Try.underlying27 (Sl.up hL) (lk rfl)) rfl ?_
    refine Ops.u (Dtu.lss (lk rfl) (lk rfl)) rfl ?_
    refine Ops.nil ?_
    refine Then.next ?_
    refine Body.condP (lk rfl) (fun _ => ?_) (fun hn => absurd (by first | omega | assumption | decide) hn)
    refine Body.skip ?_
    refine Then.next ?_
    refine Body.seq ?_
    refine Body.block ?_
    refine Body.seq ?_
    refine Body.region ?_
    refine Ops.u (Dtu.fld fa29_2 (lk rfl)) rfl ?_
    refine Ops.d (Det.ld Try.isAgg27 (lk rfl) (Rd.ow 3 rfl rfl)) rfl ?_
    refine Ops.u (Dtu.mv (lk rfl)) rfl ?_
    refine Ops.u (Dtu.ix (i := (i)) Try.underlying27 Try.sizeOf49 (Sl.up hL) (lk rfl) (lk rfl) (by omega) (by omega)) rfl ?_
    refine Ops.d (Det.lda Try.isAgg49 Try.sizeOf49 (lk rfl) (Rds.sl (Sl.up hL) (gf (sz := 11) (fun _ => rfl) (by omega))) rfl) rfl ?_
    refine Ops.s (Stp.alloc ty49 (fun b14 => ?_)) rfl
    refine Ops.e (Stp.store 0 Try.sizeOf49 (lk rfl) (lk rfl) rfl rfl rfl rfl rfl rfl rfl ?_)
    refine Ops.nil ?_
    refine Then.next ?_
    refine Body.seq ?_
    refine Body.seq ?_
    refine Body.region ?_
    refine Ops.u (Dtu.mv (lk rfl)) rfl ?_
    refine Ops.u (Dtu.fld fa29_1 (lk rfl)) rfl ?_
    refine Ops.d (Det.ld Try.isAgg3 (lk rfl) (Rd.ow 4 rfl rfl)) rfl ?_
    refine Ops.u (Dtu.quo (lk rfl) (lk rfl) (by first | decide | omega) (by with_reducible assumption)) rfl ?_
    refine Ops.u (Dtu.mv (lk rfl)) rfl ?_
    refine Ops.u (Dtu.eql (lk rfl) (lk rfl)) rfl ?_
    refine Ops.u (Dtu.mv (lk rfl)) rfl ?_
    refine Ops.decP 38 rfl (fun c38 => ?_) (fun c38 => ?_)
    · refine Ops.gu rfl rfl rfl (Dtu.mv (lk rfl)) rfl ?_
      refine Ops.gu rfl rfl rfl (Dtu.fld fa29_1 (lk rfl)) rfl ?_
      refine Ops.gd rfl rfl rfl (Det.ld Try.isAgg3 (lk rfl) (Rd.ow 4 rfl rfl)) rfl ?_
      refine Ops.gu rfl rfl rfl (Dtu.rem (lk rfl) (lk rfl) (by first | decide | omega) (by with_reducible assumption)) rfl ?_
      refine Ops.gu rfl rfl rfl (Dtu.mv (lk rfl)) rfl ?_
      refine Ops.gu rfl rfl rfl (Dtu.geq (lk rfl) (lk rfl)) rfl ?_
      refine Ops.u (Dtu.pickT (lk rfl) (lk rfl)) rfl ?_
      refine Ops.u (Dtu.mv (lk rfl)) rfl ?_
      refine Ops.decP 46 rfl (fun c46 => ?_) (fun c46 => ?_)
      · refine Ops.gu rfl rfl rfl (Dtu.mv (lk rfl)) rfl ?_
        refine Ops.gu rfl rfl rfl (Dtu.fld fa29_1 (lk rfl)) rfl ?_
        refine Ops.gd rfl rfl rfl (Det.ld Try.isAgg3 (lk rfl) (Rd.ow 4 rfl rfl)) rfl ?_
        refine Ops.gu rfl rfl rfl (Dtu.rem (lk rfl) (lk rfl) (by first | decide | omega) (by with_reducible assumption)) rfl ?_
        refine Ops.gu rfl rfl rfl (Dtu.mv (lk rfl)) rfl ?_
        refine Ops.gu rfl rfl rfl (Dtu.lss (lk rfl) (lk rfl)) rfl ?_
        refine Ops.u (Dtu.pickT (lk rfl) (lk rfl)) rfl ?_
        refine Ops.nil ?_
        refine Then.next ?_
        refine Body.condP (lk rfl) (fun c53 => ?_) (fun c53 => ?_)
        · refine Body.region ?_
          refine Ops.d (Det.lda Try.isAgg49 Try.sizeOf49 (lk rfl) (Rds.ow (m := 11) 3 rfl rfl) rfl) rfl ?_
          refine Ops.e (Stp.store 0 Try.sizeOf49 (lk rfl) (lk rfl) rfl rfl rfl rfl rfl rfl rfl ?_)
          refine Ops.nil ?_
          refine Then.next ?_
          refine Body.region ?_
          refine Ops.u (Dtu.mv (lk rfl)) rfl ?_
          refine Ops.d (Det.lda Try.isAgg49 Try.sizeOf49 (lk rfl) (Rds.ow (m := 11) 0 rfl rfl) rfl) rfl ?_
          refine Ops.s (Stp.buildSliceO Try.underlying27 ty49 (by decide) (by decide) (lkp rfl) rfl rfl rfl (by decide) (fun v57 => ?_)) rfl
          refine Ops.s (Stp.append 2 Try.underlying27 ty49 rfl rfl (lk rfl) (lk rfl) (Sl.osl 0 rfl) (by first | rfl | exact all_map (fun _ => rfl) _ | exact all_flat (fun _ => rfl) _) (by omega) (by omega) (fun v58 => ?_)) rfl
          refine Ops.u (Dtu.asg (lk rfl)) rfl ?_
          refine Ops.nil ?_
          refine Blk.norm ?_
          refine Then.next ?_
          refine Body.region ?_
          refine Ops.u (Dtu.mv (lk rfl)) rfl ?_
          refine Ops.u (Dtu.add (lk rfl) (lk rfl) (w64 (by omega) (by omega))) rfl ?_
          refine Ops.u (Dtu.asg (lk rfl)) rfl ?_
          refine Ops.nil ?_
          (first | exact Round.goW ⟨i + 1, v58⟩ rfl rfl rfl ⟨rfl, rfl, trivial⟩ (fun w s => by dsimp only; rw [hs, hF1 (by omega)]; exact pk [2, 2, 2, 2] rfl w s) (by dsimp only; omega) (by dsimp only; omega) | exact Round.goW ⟨i + 1, v58⟩ rfl rfl rfl ⟨rfl, rfl, trivial⟩ (fun w s => by dsimp only; rw [hs, hF2 (by omega)]; exact pk [2, 2, 2, 2] rfl w s) (by dsimp only; omega) (by dsimp only; omega))
        · refine Body.skip ?_
          refine Then.next ?_
          refine Body.region ?_
          refine Ops.u (Dtu.mv (lk rfl)) rfl ?_
          refine Ops.d (Det.lda Try.isAgg49 Try.sizeOf49 (lk rfl) (Rds.ow (m := 11) 0 rfl rfl) rfl) rfl ?_
          refine Ops.s (Stp.buildSliceO Try.underlying27 ty49 (by decide) (by decide) (lkp rfl) rfl rfl rfl (by decide) (fun v57 => ?_)) rfl
          refine Ops.s (Stp.append 2 Try.underlying27 ty49 rfl rfl (lk rfl) (lk rfl) (Sl.osl 0 rfl) (by first | rfl | exact all_map (fun _ => rfl) _ | exact all_flat (fun _ => rfl) _) (by omega) (by omega) (fun v58 => ?_)) rfl
          refine Ops.u (Dtu.asg (lk rfl)) rfl ?_
          refine Ops.nil ?_
          refine Blk.norm ?_
          refine Then.next ?_
          refine Body.region ?_
          refine Ops.u (Dtu.mv (lk rfl)) rfl ?_
          refine Ops.u (Dtu.add (lk rfl) (lk rfl) (w64 (by omega) (by omega))) rfl ?_
          refine Ops.u (Dtu.asg (lk rfl)) rfl ?_
          refine Ops.nil ?_
          (first | exact Round.goW ⟨i + 1, v58⟩ rfl rfl rfl ⟨rfl, rfl, trivial⟩ (fun w s => by dsimp only; rw [hs, hF1 (by omega)]; exact pk [2, 2, 2, 2] rfl w s) (by dsimp only; omega) (by dsimp only; omega) | exact Round.goW ⟨i + 1, v58⟩ rfl rfl rfl ⟨rfl, rfl, trivial⟩ (fun w s => by dsimp only; rw [hs, hF2 (by omega)]; exact pk [2, 2, 2, 2] rfl w s) (by dsimp only; omega) (by dsimp only; omega))
      · refine Ops.gn rfl rfl rfl rfl rfl ?_
        refine Ops.gn rfl rfl rfl rfl rfl ?_
        refine Ops.gn rfl rfl rfl rfl rfl ?_
        refine Ops.gn rfl rfl rfl rfl rfl ?_
        refine Ops.gn rfl rfl rfl rfl rfl ?_
        refine Ops.gn rfl rfl rfl rfl rfl ?_
        refine Ops.u (Dtu.pickF (lk rfl) (lk rfl)) rfl ?_
        refine Ops.nil ?_
        refine Then.next ?_
        refine Body.condF (lk rfl) ?_
        refine Body.skip ?_
        refine Then.next ?_
        refine Body.region ?_
        refine Ops.u (Dtu.mv (lk rfl)) rfl ?_
        refine Ops.d (Det.lda Try.isAgg49 Try.sizeOf49 (lk rfl) (Rds.ow (m := 11) 0 rfl rfl) rfl) rfl ?_
        refine Ops.s (Stp.buildSliceO Try.underlying27 ty49 (by decide) (by decide) (lkp rfl) rfl rfl rfl (by decide) (fun v57 => ?_)) rfl
        refine Ops.s (Stp.append 2 Try.underlying27 ty49 rfl rfl (lk rfl) (lk rfl) (Sl.osl 0 rfl) (by first | rfl | exact all_map (fun _ => rfl) _ | exact all_flat (fun _ => rfl) _) (by omega) (by omega) (fun v58 => ?_)) rfl
        refine Ops.u (Dtu.asg (lk rfl)) rfl ?_
        refine Ops.nil ?_
        refine Blk.norm ?_
        refine Then.next ?_
        refine Body.region ?_
        refine Ops.u (Dtu.mv (lk rfl)) rfl ?_
        refine Ops.u (Dtu.add (lk rfl) (lk rfl) (w64 (by omega) (by omega))) rfl ?_
        refine Ops.u (Dtu.asg (lk rfl)) rfl ?_
        refine Ops.nil ?_
        (first | exact Round.goW ⟨i + 1, v58⟩ rfl rfl rfl ⟨rfl, rfl, trivial⟩ (fun w s => by dsimp only; rw [hs, hF1 (by omega)]; exact pk [2, 2, 2, 2] rfl w s) (by dsimp only; omega) (by dsimp only; omega) | exact Round.goW ⟨i + 1, v58⟩ rfl rfl rfl ⟨rfl, rfl, trivial⟩ (fun w s => by dsimp only; rw [hs, hF2 (by omega)]; exact pk [2, 2, 2, 2] rfl w s) (by dsimp only; omega) (by dsimp only; omega))
    · refine Ops.gn rfl rfl rfl rfl rfl ?_
      refine Ops.gn rfl rfl rfl rfl rfl ?_
      refine Ops.gn rfl rfl rfl rfl rfl ?_
      refine Ops.gn rfl rfl rfl rfl rfl ?_
      refine Ops.gn rfl rfl rfl rfl rfl ?_
      refine Ops.gn rfl rfl rfl rfl rfl ?_
      refine Ops.u (Dtu.pickF (lk rfl) (lk rfl)) rfl ?_
      refine Ops.u (Dtu.mv (lk rfl)) rfl ?_
      refine Ops.gn rfl rfl rfl rfl rfl ?_
      refine Ops.gn rfl rfl rfl rfl rfl ?_
      refine Ops.gn rfl rfl rfl rfl rfl ?_
      refine Ops.gn rfl rfl rfl rfl rfl ?_
      refine Ops.gn rfl rfl rfl rfl rfl ?_
      refine Ops.gn rfl rfl rfl rfl rfl ?_
      refine Ops.u (Dtu.pickF (lk rfl) (lk rfl)) rfl ?_
      refine Ops.nil ?_
      refine Then.next ?_
      refine Body.condF (lk rfl) ?_
      refine Body.skip ?_
      refine Then.next ?_
      refine Body.region ?_
      refine Ops.u (Dtu.mv (lk rfl)) rfl ?_
      refine Ops.d (Det.lda Try.isAgg49 Try.sizeOf49 (lk rfl) (Rds.ow (m := 11) 0 rfl rfl) rfl) rfl ?_
      refine Ops.s (Stp.buildSliceO Try.underlying27 ty49 (by decide) (by decide) (lkp rfl) rfl rfl rfl (by decide) (fun v57 => ?_)) rfl
      refine Ops.s (Stp.append 2 Try.underlying27 ty49 rfl rfl (lk rfl) (lk rfl) (Sl.osl 0 rfl) (by first | rfl | exact all_map (fun _ => rfl) _ | exact all_flat (fun _ => rfl) _) (by omega) (by omega) (fun v58 => ?_)) rfl
      refine Ops.u (Dtu.asg (lk rfl)) rfl ?_
      refine Ops.nil ?_
      refine Blk.norm ?_
      refine Then.next ?_
      refine Body.region ?_
      refine Ops.u (Dtu.mv (lk rfl)) rfl ?_
      refine Ops.u (Dtu.add (lk rfl) (lk rfl) (w64 (by omega) (by omega))) rfl ?_
      refine Ops.u (Dtu.asg (lk rfl)) rfl ?_
      refine Ops.nil ?_
      (first | exact Round.goW ⟨i + 1, v58⟩ rfl rfl rfl ⟨rfl, rfl, trivial⟩ (fun w s => by dsimp only; rw [hs, hF1 (by omega)]; exact pk [2, 2, 2, 2] rfl w s) (by dsimp only; omega) (by dsimp only; omega) | exact Round.goW ⟨i + 1, v58⟩ rfl rfl rfl ⟨rfl, rfl, trivial⟩ (fun w s => by dsimp only; rw [hs, hF2 (by omega)]; exact pk [2, 2, 2, 2] rfl w s) (by dsimp only; omega) (by dsimp only; omega))
  · obtain rfl : i = g.r * g.c := by omega
    have he : (g.fill i0 lo up ⟨pt, fl, fg, bg⟩).flat = (List.range (g.r * g.c)).map fun j => (g.fill i0 lo up ⟨pt, fl, fg, bg⟩).f (j / g.c) (j % g.c) := by
      rw [Gd.fill, if_pos h']; rfl
    rw [he]
    refine Body.seq ?_
    refine Body.seq ?_
    refine Body.region ?_
    refine Ops.u (Dtu.mv (lk rfl)) rfl ?_
    refine Ops.u (Dtu.fld fa29_2 (lk rfl)) rfl ?_
    refine Ops.d (Det.ld Try.isAgg27 (lk rfl) (Rd.ow 3 rfl rfl)) rfl ?_
    refine Ops.u (Dtu.lenS Try.underlying27 (Sl.up hL) (lk rfl)) rfl ?_
    refine Ops.u (Dtu.lss (lk rfl) (lk rfl)) rfl ?_
    refine Ops.nil ?_
    refine Then.next ?_
    refine Body.condP (lk rfl) (fun hy => absurd hy (by first | omega | assumption | decide)) (fun _ => ?_)
    refine Body.exit ?_
    refine Then.exit ?_
    refine Round.exit ?_
    refine Blk.here ?_
    refine Then.next ?_
    refine Body.seq ?_
    refine Body.region ?_
    refine Ops.d (Det.lda Try.isAgg29 Try.sizeOf29 (lk rfl) (Rds.ow (m := 3) 3 rfl rfl) rfl) rfl ?_
    refine Ops.u (Dtu.mv (lk rfl)) rfl ?_
    refine Ops.s (Stp.inline _ _ Try.func109 rfl Try.ntmps109 rfl rfl rfl Try.call109 (lks rfl) ?_) rfl
    refine Body.seq ?_
    refine Body.region ?_
    refine Ops.s (Stp.box (lk rfl) rfl (fun b2 => ?_)) rfl
    refine Ops.s (Stp.alloc ty29 (fun b4 => ?_)) rfl
    refine Ops.nil ?_
    refine Then.next ?_
    refine Body.seq ?_
    refine Body.region ?_
    refine Ops.u (Dtu.fld fa29_0 (lk rfl)) rfl ?_
    refine Ops.d (Det.ld Try.isAgg3 (lk rfl) (Rd.ow 1 rfl rfl)) rfl ?_
    refine Ops.u (Dtu.fld fa29_1 (lk rfl)) rfl ?_
    refine Ops.d (Det.ld Try.isAgg3 (lk rfl) (Rd.ow 1 rfl rfl)) rfl ?_
    refine Ops.u (Dtu.mv (lk rfl)) rfl ?_
    refine Ops.pure (Sl.shape (Sl.osl 2 rfl)) fun hsll => ?_
    obtain ⟨la, lc, rfl⟩ := hsll
    refine Ops.u (Dtu.build ty29 pl29 (lkp rfl) rfl rfl) rfl ?_
    refine Ops.e (Stp.store 0 Try.sizeOf29 (lk rfl) (lk rfl) rfl rfl rfl rfl rfl rfl rfl ?_)
    refine Ops.nil ?_
    refine Then.next ?_
    refine Body.ret ?_
    refine RetK.r1 ⟨_, rfl, Loads.agg Try.isAgg29 Try.sizeOf29 (Rds.ow (m := 3) 0 rfl rfl) rfl⟩ ?_
    refine Ops.conseq (pk [2, 2, 2, 2] rfl) ?_
    refine Ops.e (Stp.store 1 Try.sizeOf29 (lk rfl) (lk rfl) rfl rfl rfl rfl rfl rfl rfl ?_)
    refine Ops.u (Dtu.asg (lk rfl)) rfl ?_
    refine Ops.nil ?_
    refine Then.next ?_
    refine Body.ret ?_
    exact ⟨.inr rfl, _, Loads.agg Try.isAgg29 Try.sizeOf29 (Rds.ow (m := 3) 1 rfl rfl) rfl, _, pk [0] rfl, la, lc, rfl, rfl⟩
end Go.Proofs.Ytpmapedhigjalaa
end
section
/- The document's grid: Put, Move, Shift. -/
namespace Go.Proofs.Ytpmapedhigjalaa
set_option maxRecDepth 100000
set_option linter.unusedVariables false
set_option linter.unusedSimpArgs false
open Go.Sx

theorem rfill_no (E : Env) (g : Gd) (v : Value) (row lo up : Int) (xs : List Value) (hh : ¬ g.has row 0) (hs : IsSl v) : Does Try.prog 76 #[.agg #[.int .i64 g.r, .int .i64 g.c, v], .int .i64 row, .int .i64 lo, .int .i64 up, .agg xs.toArray] E ([]) fun r H' => r = .tuple #[.agg #[.int .i64 g.r, .int .i64 g.c, v], .int .i64 1] ∧ H' = [] := by
  unfold Gd.has at hh
  obtain ⟨va, vm, vc, rfl⟩ := hs
  refine Does.go _ _ Try.func76 rfl Try.ntmps76 rfl rfl ?_
  refine Body.seq ?_
  refine Body.region ?_
  refine Ops.s (Stp.box (lk rfl) rfl (fun b5 => ?_)) rfl
  refine Ops.s (Stp.box (lk rfl) rfl (fun b9 => ?_)) rfl
  refine Ops.s (Stp.alloc ty29 (fun b10 => ?_)) rfl
  refine Ops.u (Dtu.asg (lk rfl)) rfl ?_
  refine Ops.nil ?_
  refine Then.next ?_
  refine Body.seq ?_
  refine Body.seq ?_
  refine Body.region ?_
  refine Ops.d (Det.lda Try.isAgg29 Try.sizeOf29 (lk rfl) (Rds.ow (m := 3) 2 rfl rfl) rfl) rfl ?_
  refine Ops.u (Dtu.mv (lk rfl)) rfl ?_
  refine Ops.s (Stp.inline _ _ Try.func17 rfl Try.ntmps17 rfl rfl rfl Try.call17 (lks rfl) ?_) rfl
  refine Body.seq ?_
  refine Body.region ?_
  refine Ops.s (Stp.box (lk rfl) rfl (fun b3 => ?_)) rfl
  refine Ops.u (Dtu.asg (lk rfl)) rfl ?_
  refine Ops.nil ?_
  refine Then.next ?_
  refine Body.seq ?_
  refine Body.region ?_
  refine Ops.u (Dtu.mv (lk rfl)) rfl ?_
  refine Ops.u (Dtu.geq (lk rfl) (lk rfl)) rfl ?_
  refine Ops.u (Dtu.mv (lk rfl)) rfl ?_
  refine Ops.decP 9 rfl (fun c9 => ?_) (fun c9 => ?_)
  · refine Ops.gu rfl rfl rfl (Dtu.mv (lk rfl)) rfl ?_
    refine Ops.gu rfl rfl rfl (Dtu.fld fa29_0 (lk rfl)) rfl ?_
    refine Ops.gd rfl rfl rfl (Det.ld Try.isAgg3 (lk rfl) (Rd.ow 0 rfl rfl)) rfl ?_
    refine Ops.gu rfl rfl rfl (Dtu.lss (lk rfl) (lk rfl)) rfl ?_
    refine Ops.u (Dtu.pickT (lk rfl) (lk rfl)) rfl ?_
    refine Ops.u (Dtu.mv (lk rfl)) rfl ?_
    refine Ops.decP 15 rfl (fun c15 => ?_) (fun c15 => ?_)
    · refine Ops.gu rfl rfl rfl (Dtu.mv (lk rfl)) rfl ?_
      refine Ops.gu rfl rfl rfl (Dtu.geq (lk rfl) (lk rfl)) rfl ?_
      refine Ops.u (Dtu.pickT (lk rfl) (lk rfl)) rfl ?_
      refine Ops.u (Dtu.mv (lk rfl)) rfl ?_
      refine Ops.decP 19 rfl (fun _ => ?_) (fun hn => absurd (by first | omega | assumption | decide) hn)
      refine Ops.gu rfl rfl rfl (Dtu.mv (lk rfl)) rfl ?_
      refine Ops.gu rfl rfl rfl (Dtu.fld fa29_1 (lk rfl)) rfl ?_
      refine Ops.gd rfl rfl rfl (Det.ld Try.isAgg3 (lk rfl) (Rd.ow 0 rfl rfl)) rfl ?_
      refine Ops.gu rfl rfl rfl (Dtu.lss (lk rfl) (lk rfl)) rfl ?_
      refine Ops.u (Dtu.pickT (lk rfl) (lk rfl)) rfl ?_
      refine Ops.u (Dtu.asg (lk rfl)) rfl ?_
      refine Ops.nil ?_
      refine Then.next ?_
      refine Body.ret ?_
      refine RetK.r1 rfl ?_
      refine Ops.conseq (pk [1, 1, 1] rfl) ?_
      refine Ops.u (Dtu.notP (lk rfl)) rfl ?_
      refine Ops.nil ?_
      refine Then.next ?_
      refine Body.condP (lk rfl) (fun _ => ?_) (fun hn => absurd (by first | omega | assumption | decide) hn)
      refine Body.seq ?_
      refine Body.region ?_
      refine Ops.d (Det.lda Try.isAgg29 Try.sizeOf29 (lk rfl) (Rds.ow (m := 3) 2 rfl rfl) rfl) rfl ?_
      refine Ops.e (Stp.store 0 Try.sizeOf29 (lk rfl) (lk rfl) rfl rfl rfl rfl rfl rfl rfl ?_)
      refine Ops.u (Dtu.asg (lk rfl)) rfl ?_
      refine Ops.nil ?_
      refine Then.next ?_
      refine Body.ret ?_
      refine Then.ret ?_
      exact ⟨.inr rfl, _, Loads.agg Try.isAgg29 Try.sizeOf29 (Rds.ow (m := 3) 0 rfl rfl) rfl, _, pk [] rfl, rfl, rfl⟩
    · refine Ops.gn rfl rfl rfl rfl rfl ?_
      refine Ops.gn rfl rfl rfl rfl rfl ?_
      refine Ops.u (Dtu.pickF (lk rfl) (lk rfl)) rfl ?_
      refine Ops.u (Dtu.mv (lk rfl)) rfl ?_
      refine Ops.gn rfl rfl rfl rfl rfl ?_
      refine Ops.gn rfl rfl rfl rfl rfl ?_
      refine Ops.gn rfl rfl rfl rfl rfl ?_
      refine Ops.gn rfl rfl rfl rfl rfl ?_
      refine Ops.u (Dtu.pickF (lk rfl) (lk rfl)) rfl ?_
      refine Ops.u (Dtu.asg (lk rfl)) rfl ?_
      refine Ops.nil ?_
      refine Then.next ?_
      refine Body.ret ?_
      refine RetK.r1 rfl ?_
      refine Ops.conseq (pk [1, 1, 1] rfl) ?_
      refine Ops.u (Dtu.not (lk rfl)) rfl ?_
      refine Ops.nil ?_
      refine Then.next ?_
      refine Body.condT (lk rfl) ?_
      refine Body.seq ?_
      refine Body.region ?_
      refine Ops.d (Det.lda Try.isAgg29 Try.sizeOf29 (lk rfl) (Rds.ow (m := 3) 2 rfl rfl) rfl) rfl ?_
      refine Ops.e (Stp.store 0 Try.sizeOf29 (lk rfl) (lk rfl) rfl rfl rfl rfl rfl rfl rfl ?_)
      refine Ops.u (Dtu.asg (lk rfl)) rfl ?_
      refine Ops.nil ?_
      refine Then.next ?_
      refine Body.ret ?_
      refine Then.ret ?_
      exact ⟨.inr rfl, _, Loads.agg Try.isAgg29 Try.sizeOf29 (Rds.ow (m := 3) 0 rfl rfl) rfl, _, pk [] rfl, rfl, rfl⟩
  · refine Ops.gn rfl rfl rfl rfl rfl ?_
    refine Ops.gn rfl rfl rfl rfl rfl ?_
    refine Ops.gn rfl rfl rfl rfl rfl ?_
    refine Ops.gn rfl rfl rfl rfl rfl ?_
    refine Ops.u (Dtu.pickF (lk rfl) (lk rfl)) rfl ?_
    refine Ops.u (Dtu.mv (lk rfl)) rfl ?_
    refine Ops.gn rfl rfl rfl rfl rfl ?_
    refine Ops.gn rfl rfl rfl rfl rfl ?_
    refine Ops.u (Dtu.pickF (lk rfl) (lk rfl)) rfl ?_
    refine Ops.u (Dtu.mv (lk rfl)) rfl ?_
    refine Ops.gn rfl rfl rfl rfl rfl ?_
    refine Ops.gn rfl rfl rfl rfl rfl ?_
    refine Ops.gn rfl rfl rfl rfl rfl ?_
    refine Ops.gn rfl rfl rfl rfl rfl ?_
    refine Ops.u (Dtu.pickF (lk rfl) (lk rfl)) rfl ?_
    refine Ops.u (Dtu.asg (lk rfl)) rfl ?_
    refine Ops.nil ?_
    refine Then.next ?_
    refine Body.ret ?_
    refine RetK.r1 rfl ?_
    refine Ops.conseq (pk [1, 1, 1] rfl) ?_
    refine Ops.u (Dtu.not (lk rfl)) rfl ?_
    refine Ops.nil ?_
    refine Then.next ?_
    refine Body.condT (lk rfl) ?_
    refine Body.seq ?_
    refine Body.region ?_
    refine Ops.d (Det.lda Try.isAgg29 Try.sizeOf29 (lk rfl) (Rds.ow (m := 3) 2 rfl rfl) rfl) rfl ?_
    refine Ops.e (Stp.store 0 Try.sizeOf29 (lk rfl) (lk rfl) rfl rfl rfl rfl rfl rfl rfl ?_)
    refine Ops.u (Dtu.asg (lk rfl)) rfl ?_
    refine Ops.nil ?_
    refine Then.next ?_
    refine Body.ret ?_
    refine Then.ret ?_
    exact ⟨.inr rfl, _, Loads.agg Try.isAgg29 Try.sizeOf29 (Rds.ow (m := 3) 0 rfl rfl) rfl, _, pk [] rfl, rfl, rfl⟩
theorem rput_no (E : Env) (g : Gd) (v : Value) (row col : Int) (xs : List Value) (hh : ¬ g.has row col) (hs : IsSl v) : Does Try.prog 75 #[.agg #[.int .i64 g.r, .int .i64 g.c, v], .int .i64 row, .int .i64 col, .agg xs.toArray] E ([]) fun r H' => r = .tuple #[.agg #[.int .i64 g.r, .int .i64 g.c, v], .int .i64 1] ∧ H' = [] := by
  unfold Gd.has at hh
  obtain ⟨va, vm, vc, rfl⟩ := hs
  refine Does.go _ _ Try.func75 rfl Try.ntmps75 rfl rfl ?_
  refine Body.seq ?_
  refine Body.region ?_
  refine Ops.s (Stp.box (lk rfl) rfl (fun b4 => ?_)) rfl
  refine Ops.s (Stp.box (lk rfl) rfl (fun b7 => ?_)) rfl
  refine Ops.s (Stp.alloc ty29 (fun b8 => ?_)) rfl
  refine Ops.u (Dtu.asg (lk rfl)) rfl ?_
  refine Ops.nil ?_
  refine Then.next ?_
  refine Body.seq ?_
  refine Body.seq ?_
  refine Body.region ?_
  refine Ops.d (Det.lda Try.isAgg29 Try.sizeOf29 (lk rfl) (Rds.ow (m := 3) 2 rfl rfl) rfl) rfl ?_
  refine Ops.u (Dtu.mv (lk rfl)) rfl ?_
  refine Ops.u (Dtu.mv (lk rfl)) rfl ?_
  refine Ops.s (Stp.inline _ _ Try.func17 rfl Try.ntmps17 rfl rfl rfl Try.call17 (lks rfl) ?_) rfl
  refine Body.seq ?_
  refine Body.region ?_
  refine Ops.s (Stp.box (lk rfl) rfl (fun b3 => ?_)) rfl
  refine Ops.u (Dtu.asg (lk rfl)) rfl ?_
  refine Ops.nil ?_
  refine Then.next ?_
  refine Body.seq ?_
  refine Body.region ?_
  refine Ops.u (Dtu.mv (lk rfl)) rfl ?_
  refine Ops.u (Dtu.geq (lk rfl) (lk rfl)) rfl ?_
  refine Ops.u (Dtu.mv (lk rfl)) rfl ?_
  refine Ops.decP 9 rfl (fun c9 => ?_) (fun c9 => ?_)
  · refine Ops.gu rfl rfl rfl (Dtu.mv (lk rfl)) rfl ?_
    refine Ops.gu rfl rfl rfl (Dtu.fld fa29_0 (lk rfl)) rfl ?_
    refine Ops.gd rfl rfl rfl (Det.ld Try.isAgg3 (lk rfl) (Rd.ow 0 rfl rfl)) rfl ?_
    refine Ops.gu rfl rfl rfl (Dtu.lss (lk rfl) (lk rfl)) rfl ?_
    refine Ops.u (Dtu.pickT (lk rfl) (lk rfl)) rfl ?_
    refine Ops.u (Dtu.mv (lk rfl)) rfl ?_
    refine Ops.decP 15 rfl (fun c15 => ?_) (fun c15 => ?_)
    · refine Ops.gu rfl rfl rfl (Dtu.mv (lk rfl)) rfl ?_
      refine Ops.gu rfl rfl rfl (Dtu.geq (lk rfl) (lk rfl)) rfl ?_
      refine Ops.u (Dtu.pickT (lk rfl) (lk rfl)) rfl ?_
      refine Ops.u (Dtu.mv (lk rfl)) rfl ?_
      refine Ops.decP 19 rfl (fun c19 => ?_) (fun c19 => ?_)
      · refine Ops.gu rfl rfl rfl (Dtu.mv (lk rfl)) rfl ?_
        refine Ops.gu rfl rfl rfl (Dtu.fld fa29_1 (lk rfl)) rfl ?_
        refine Ops.gd rfl rfl rfl (Det.ld Try.isAgg3 (lk rfl) (Rd.ow 0 rfl rfl)) rfl ?_
        refine Ops.gu rfl rfl rfl (Dtu.lss (lk rfl) (lk rfl)) rfl ?_
        refine Ops.u (Dtu.pickT (lk rfl) (lk rfl)) rfl ?_
        refine Ops.u (Dtu.asg (lk rfl)) rfl ?_
        refine Ops.nil ?_
        refine Then.next ?_
        refine Body.ret ?_
        refine RetK.r1 rfl ?_
        refine Ops.conseq (pk [1, 1, 1] rfl) ?_
        refine Ops.u (Dtu.notP (lk rfl)) rfl ?_
        refine Ops.nil ?_
        refine Then.next ?_
        refine Body.condP (lk rfl) (fun _ => ?_) (fun hn => absurd (by first | omega | assumption | decide) hn)
        refine Body.seq ?_
        refine Body.region ?_
        refine Ops.d (Det.lda Try.isAgg29 Try.sizeOf29 (lk rfl) (Rds.ow (m := 3) 2 rfl rfl) rfl) rfl ?_
        refine Ops.e (Stp.store 0 Try.sizeOf29 (lk rfl) (lk rfl) rfl rfl rfl rfl rfl rfl rfl ?_)
        refine Ops.u (Dtu.asg (lk rfl)) rfl ?_
        refine Ops.nil ?_
        refine Then.next ?_
        refine Body.ret ?_
        refine Then.ret ?_
        exact ⟨.inr rfl, _, Loads.agg Try.isAgg29 Try.sizeOf29 (Rds.ow (m := 3) 0 rfl rfl) rfl, _, pk [] rfl, rfl, rfl⟩
      · refine Ops.gn rfl rfl rfl rfl rfl ?_
        refine Ops.gn rfl rfl rfl rfl rfl ?_
        refine Ops.gn rfl rfl rfl rfl rfl ?_
        refine Ops.gn rfl rfl rfl rfl rfl ?_
        refine Ops.u (Dtu.pickF (lk rfl) (lk rfl)) rfl ?_
        refine Ops.u (Dtu.asg (lk rfl)) rfl ?_
        refine Ops.nil ?_
        refine Then.next ?_
        refine Body.ret ?_
        refine RetK.r1 rfl ?_
        refine Ops.conseq (pk [1, 1, 1] rfl) ?_
        refine Ops.u (Dtu.not (lk rfl)) rfl ?_
        refine Ops.nil ?_
        refine Then.next ?_
        refine Body.condT (lk rfl) ?_
        refine Body.seq ?_
        refine Body.region ?_
        refine Ops.d (Det.lda Try.isAgg29 Try.sizeOf29 (lk rfl) (Rds.ow (m := 3) 2 rfl rfl) rfl) rfl ?_
        refine Ops.e (Stp.store 0 Try.sizeOf29 (lk rfl) (lk rfl) rfl rfl rfl rfl rfl rfl rfl ?_)
        refine Ops.u (Dtu.asg (lk rfl)) rfl ?_
        refine Ops.nil ?_
        refine Then.next ?_
        refine Body.ret ?_
        refine Then.ret ?_
        exact ⟨.inr rfl, _, Loads.agg Try.isAgg29 Try.sizeOf29 (Rds.ow (m := 3) 0 rfl rfl) rfl, _, pk [] rfl, rfl, rfl⟩
    · refine Ops.gn rfl rfl rfl rfl rfl ?_
      refine Ops.gn rfl rfl rfl rfl rfl ?_
      refine Ops.u (Dtu.pickF (lk rfl) (lk rfl)) rfl ?_
      refine Ops.u (Dtu.mv (lk rfl)) rfl ?_
      refine Ops.gn rfl rfl rfl rfl rfl ?_
      refine Ops.gn rfl rfl rfl rfl rfl ?_
      refine Ops.gn rfl rfl rfl rfl rfl ?_
      refine Ops.gn rfl rfl rfl rfl rfl ?_
      refine Ops.u (Dtu.pickF (lk rfl) (lk rfl)) rfl ?_
      refine Ops.u (Dtu.asg (lk rfl)) rfl ?_
      refine Ops.nil ?_
      refine Then.next ?_
      refine Body.ret ?_
      refine RetK.r1 rfl ?_
      refine Ops.conseq (pk [1, 1, 1] rfl) ?_
      refine Ops.u (Dtu.not (lk rfl)) rfl ?_
      refine Ops.nil ?_
      refine Then.next ?_
      refine Body.condT (lk rfl) ?_
      refine Body.seq ?_
      refine Body.region ?_
      refine Ops.d (Det.lda Try.isAgg29 Try.sizeOf29 (lk rfl) (Rds.ow (m := 3) 2 rfl rfl) rfl) rfl ?_
      refine Ops.e (Stp.store 0 Try.sizeOf29 (lk rfl) (lk rfl) rfl rfl rfl rfl rfl rfl rfl ?_)
      refine Ops.u (Dtu.asg (lk rfl)) rfl ?_
      refine Ops.nil ?_
      refine Then.next ?_
      refine Body.ret ?_
      refine Then.ret ?_
      exact ⟨.inr rfl, _, Loads.agg Try.isAgg29 Try.sizeOf29 (Rds.ow (m := 3) 0 rfl rfl) rfl, _, pk [] rfl, rfl, rfl⟩
  · refine Ops.gn rfl rfl rfl rfl rfl ?_
    refine Ops.gn rfl rfl rfl rfl rfl ?_
    refine Ops.gn rfl rfl rfl rfl rfl ?_
    refine Ops.gn rfl rfl rfl rfl rfl ?_
    refine Ops.u (Dtu.pickF (lk rfl) (lk rfl)) rfl ?_
    refine Ops.u (Dtu.mv (lk rfl)) rfl ?_
    refine Ops.gn rfl rfl rfl rfl rfl ?_
    refine Ops.gn rfl rfl rfl rfl rfl ?_
    refine Ops.u (Dtu.pickF (lk rfl) (lk rfl)) rfl ?_
    refine Ops.u (Dtu.mv (lk rfl)) rfl ?_
    refine Ops.gn rfl rfl rfl rfl rfl ?_
    refine Ops.gn rfl rfl rfl rfl rfl ?_
    refine Ops.gn rfl rfl rfl rfl rfl ?_
    refine Ops.gn rfl rfl rfl rfl rfl ?_
    refine Ops.u (Dtu.pickF (lk rfl) (lk rfl)) rfl ?_
    refine Ops.u (Dtu.asg (lk rfl)) rfl ?_
    refine Ops.nil ?_
    refine Then.next ?_
    refine Body.ret ?_
    refine RetK.r1 rfl ?_
    refine Ops.conseq (pk [1, 1, 1] rfl) ?_
    refine Ops.u (Dtu.not (lk rfl)) rfl ?_
    refine Ops.nil ?_
    refine Then.next ?_
    refine Body.condT (lk rfl) ?_
    refine Body.seq ?_
    refine Body.region ?_
    refine Ops.d (Det.lda Try.isAgg29 Try.sizeOf29 (lk rfl) (Rds.ow (m := 3) 2 rfl rfl) rfl) rfl ?_
    refine Ops.e (Stp.store 0 Try.sizeOf29 (lk rfl) (lk rfl) rfl rfl rfl rfl rfl rfl rfl ?_)
    refine Ops.u (Dtu.asg (lk rfl)) rfl ?_
    refine Ops.nil ?_
    refine Then.next ?_
    refine Body.ret ?_
    refine Then.ret ?_
    exact ⟨.inr rfl, _, Loads.agg Try.isAgg29 Try.sizeOf29 (Rds.ow (m := 3) 0 rfl rfl) rfl, _, pk [] rfl, rfl, rfl⟩
theorem rput_ok (E : Env) (g : Gd) (v : Value) (row col pt fl fg bg : Int) (ok : g.Ok) (hh : g.has row col) (hL : Sl E [] 11 v (g.r * g.c) (g.flat.flatMap Cell.renc)) : Does Try.prog 75 #[.agg #[.int .i64 g.r, .int .i64 g.c, v], .int .i64 row, .int .i64 col, .agg (Cell.renc ⟨pt, fl, fg, bg⟩).toArray] E ([]) fun r H' => ∃ a c, r = .tuple #[.agg #[.int .i64 g.r, .int .i64 g.c, .slice a (g.r * g.c) c], .int .i64 0] ∧ H' = [osl 49 11 (.slice a (g.r * g.c) c) (g.r * g.c) ((g.put row col ⟨pt, fl, fg, bg⟩).flat.flatMap Cell.renc)] := by
  have hb := ok.r
  have hc := ok.c
  have ha := area ok
  have h' := hh
  obtain ⟨h1, h2, h3, h4⟩ := hh
  obtain ⟨i, rfl⟩ := Int.eq_ofNat_of_zero_le h1
  obtain ⟨k, rfl⟩ := Int.eq_ofNat_of_zero_le h3
  have hlt := idx_lt (i := i) (k := k) (r := g.r) (c := g.c) (by omega) (by omega)
  have hfl := flat_len' g
  have he : g.flat.set (i * g.c + k) ⟨pt, fl, fg, bg⟩ = (g.put i k ⟨pt, fl, fg, bg⟩).flat := by
    rw [Gd.put, if_pos h']
    refine flat_eq (by simp [hfl]) fun j hj => ?_
    have hd : j / g.c * g.c + j % g.c = j := Nat.div_add_mod' j g.c
    have hm : j % g.c < g.c := Nat.mod_lt _ (by omega)
    dsimp only at hj ⊢
    rw [getElem!_pos _ j (by simp [hfl]; exact hj), List.getElem_set]
    by_cases e : i * g.c + k = j
    · have e1 : j / g.c = i := by rw [← e, Nat.mul_comm, Nat.mul_add_div (by omega), Nat.div_eq_of_lt (by omega)]; omega
      have e2 : j % g.c = k := by rw [← e, Nat.mul_comm, Nat.mul_add_mod, Nat.mod_eq_of_lt (by omega)]
      rw [if_pos e, e1, e2]; simp
    · rw [if_neg e, if_neg (fun h => e (by rw [← hd, show j / g.c = i by omega, show j % g.c = k by omega]))]
      have := flat_at hj
      rwa [getElem!_pos g.flat j (by omega)] at this
  rw [← he]
  refine Does.go _ _ Try.func75 rfl Try.ntmps75 rfl rfl ?_
  refine Body.seq ?_
  refine Body.region ?_
  refine Ops.s (Stp.box (lk rfl) rfl (fun b4 => ?_)) rfl
  refine Ops.s (Stp.box (lk rfl) rfl (fun b7 => ?_)) rfl
  refine Ops.s (Stp.alloc ty29 (fun b8 => ?_)) rfl
  refine Ops.u (Dtu.asg (lk rfl)) rfl ?_
  refine Ops.nil ?_
  refine Then.next ?_
  refine Body.seq ?_
  refine Body.seq ?_
  refine Body.region ?_
  refine Ops.d (Det.lda Try.isAgg29 Try.sizeOf29 (lk rfl) (Rds.ow (m := 3) 2 rfl rfl) rfl) rfl ?_
  refine Ops.u (Dtu.mv (lk rfl)) rfl ?_
  refine Ops.u (Dtu.mv (lk rfl)) rfl ?_
  refine Ops.s (Stp.inline _ _ Try.func17 rfl Try.ntmps17 rfl rfl rfl Try.call17 (lks rfl) ?_) rfl
  refine Body.seq ?_
  refine Body.region ?_
  refine Ops.s (Stp.box (lk rfl) rfl (fun b3 => ?_)) rfl
  refine Ops.u (Dtu.asg (lk rfl)) rfl ?_
  refine Ops.nil ?_
  refine Then.next ?_
  refine Body.seq ?_
  refine Body.region ?_
  refine Ops.u (Dtu.mv (lk rfl)) rfl ?_
  refine Ops.u (Dtu.geq (lk rfl) (lk rfl)) rfl ?_
  refine Ops.u (Dtu.mv (lk rfl)) rfl ?_
  refine Ops.decP 9 rfl (fun _ => ?_) (fun hn => absurd (by first | omega | assumption | decide) hn)
  refine Ops.gu rfl rfl rfl (Dtu.mv (lk rfl)) rfl ?_
  refine Ops.gu rfl rfl rfl (Dtu.fld fa29_0 (lk rfl)) rfl ?_
  refine Ops.gd rfl rfl rfl (Det.ld Try.isAgg3 (lk rfl) (Rd.ow 0 rfl rfl)) rfl ?_
  refine Ops.gu rfl rfl rfl (Dtu.lss (lk rfl) (lk rfl)) rfl ?_
  refine Ops.u (Dtu.pickT (lk rfl) (lk rfl)) rfl ?_
  refine Ops.u (Dtu.mv (lk rfl)) rfl ?_
  refine Ops.decP 15 rfl (fun _ => ?_) (fun hn => absurd (by first | omega | assumption | decide) hn)
  refine Ops.gu rfl rfl rfl (Dtu.mv (lk rfl)) rfl ?_
  refine Ops.gu rfl rfl rfl (Dtu.geq (lk rfl) (lk rfl)) rfl ?_
  refine Ops.u (Dtu.pickT (lk rfl) (lk rfl)) rfl ?_
  refine Ops.u (Dtu.mv (lk rfl)) rfl ?_
  refine Ops.decP 19 rfl (fun _ => ?_) (fun hn => absurd (by first | omega | assumption | decide) hn)
  refine Ops.gu rfl rfl rfl (Dtu.mv (lk rfl)) rfl ?_
  refine Ops.gu rfl rfl rfl (Dtu.fld fa29_1 (lk rfl)) rfl ?_
  refine Ops.gd rfl rfl rfl (Det.ld Try.isAgg3 (lk rfl) (Rd.ow 0 rfl rfl)) rfl ?_
  refine Ops.gu rfl rfl rfl (Dtu.lss (lk rfl) (lk rfl)) rfl ?_
  refine Ops.u (Dtu.pickT (lk rfl) (lk rfl)) rfl ?_
  refine Ops.u (Dtu.asg (lk rfl)) rfl ?_
  refine Ops.nil ?_
  refine Then.next ?_
  refine Body.ret ?_
  refine RetK.r1 rfl ?_
  refine Ops.conseq (pk [1, 1, 1] rfl) ?_
  refine Ops.u (Dtu.notP (lk rfl)) rfl ?_
  refine Ops.nil ?_
  refine Then.next ?_
  refine Body.condP (lk rfl) (fun hy => absurd hy (by first | omega | assumption | decide)) (fun _ => ?_)
  refine Body.skip ?_
  refine Then.next ?_
  refine Body.seq ?_
  refine Body.region ?_
  refine Ops.u (Dtu.asg (lk rfl)) rfl ?_
  refine Ops.nil ?_
  refine Then.next ?_
  refine Body.seq ?_
  refine Body.region ?_
  refine Ops.u (Dtu.mv (lk rfl)) rfl ?_
  refine Ops.u (Dtu.fld fa29_2 (lk rfl)) rfl ?_
  refine Ops.d (Det.ld Try.isAgg27 (lk rfl) (Rd.ow 2 rfl rfl)) rfl ?_
  refine Ops.s (Stp.appendNew Try.underlying27 ty49 rfl (lk rfl) (lk rfl) (Sl.up hL) (by first | rfl | exact all_map (fun _ => rfl) _ | exact all_flat (fun _ => rfl) _) (by omega) (by omega) (fun v20 => ?_)) rfl
  refine Ops.u (Dtu.asg (lk rfl)) rfl ?_
  refine Ops.nil ?_
  refine Then.next ?_
  refine Body.seq ?_
  refine Body.region ?_
  refine Ops.u (Dtu.mv (lk rfl)) rfl ?_
  refine Ops.u (Dtu.mv (lk rfl)) rfl ?_
  refine Ops.u (Dtu.fld fa29_1 (lk rfl)) rfl ?_
  refine Ops.d (Det.ld Try.isAgg3 (lk rfl) (Rd.ow 3 rfl rfl)) rfl ?_
  refine Ops.u (Dtu.mul (lk rfl) (lk rfl) (w64 (by omega) (by omega))) rfl ?_
  refine Ops.u (Dtu.mv (lk rfl)) rfl ?_
  refine Ops.u (Dtu.add (lk rfl) (lk rfl) (w64 (by omega) (by omega))) rfl ?_
  refine Ops.d (Det.lda Try.isAgg49 Try.sizeOf49 (lk rfl) (Rds.ow (m := 11) 2 rfl rfl) rfl) rfl ?_
  refine Ops.u (Dtu.ix (i := (i * g.c + k)) Try.underlying27 Try.sizeOf49 (Sl.osl 0 rfl) (lk rfl) (lk rfl) (by omega) (by omega)) rfl ?_
  refine Ops.e (Stp.storeF 0 (en := Cell.renc) (y := _) (fun _ => rfl) Try.sizeOf49 rfl (lk rfl) (lk rfl) rfl (by omega) (by omega) rfl ?_)
  refine Ops.nil ?_
  refine Then.next ?_
  refine Body.seq ?_
  refine Body.region ?_
  refine Ops.d (Det.lda Try.isAgg29 Try.sizeOf29 (lk rfl) (Rds.ow (m := 3) 3 rfl rfl) rfl) rfl ?_
  refine Ops.u (Dtu.mv (lk rfl)) rfl ?_
  refine Ops.s (Stp.inline _ _ Try.func109 rfl Try.ntmps109 rfl rfl rfl Try.call109 (lks rfl) ?_) rfl
  refine Body.seq ?_
  refine Body.region ?_
  refine Ops.s (Stp.box (lk rfl) rfl (fun b2 => ?_)) rfl
  refine Ops.s (Stp.alloc ty29 (fun b4 => ?_)) rfl
  refine Ops.nil ?_
  refine Then.next ?_
  refine Body.seq ?_
  refine Body.region ?_
  refine Ops.u (Dtu.fld fa29_0 (lk rfl)) rfl ?_
  refine Ops.d (Det.ld Try.isAgg3 (lk rfl) (Rd.ow 1 rfl rfl)) rfl ?_
  refine Ops.u (Dtu.fld fa29_1 (lk rfl)) rfl ?_
  refine Ops.d (Det.ld Try.isAgg3 (lk rfl) (Rd.ow 1 rfl rfl)) rfl ?_
  refine Ops.u (Dtu.mv (lk rfl)) rfl ?_
  refine Ops.pure (Sl.shape (Sl.osl 2 rfl)) fun hslv20 => ?_
  obtain ⟨v20a, v20c, rfl⟩ := hslv20
  refine Ops.u (Dtu.build ty29 pl29 (lkp rfl) rfl rfl) rfl ?_
  refine Ops.e (Stp.store 0 Try.sizeOf29 (lk rfl) (lk rfl) rfl rfl rfl rfl rfl rfl rfl ?_)
  refine Ops.nil ?_
  refine Then.next ?_
  refine Body.ret ?_
  refine RetK.r1 ⟨_, rfl, Loads.agg Try.isAgg29 Try.sizeOf29 (Rds.ow (m := 3) 0 rfl rfl) rfl⟩ ?_
  refine Ops.conseq (pk [2, 2, 2, 2] rfl) ?_
  refine Ops.e (Stp.store 1 Try.sizeOf29 (lk rfl) (lk rfl) rfl rfl rfl rfl rfl rfl rfl ?_)
  refine Ops.u (Dtu.asg (lk rfl)) rfl ?_
  refine Ops.nil ?_
  refine Then.next ?_
  refine Body.ret ?_
  exact ⟨.inr rfl, _, Loads.agg Try.isAgg29 Try.sizeOf29 (Rds.ow (m := 3) 1 rfl rfl) rfl, _, pk [0] rfl, v20a, v20c, rfl, rfl⟩
def Gd.mv (g : Gd) (t u n : Int) (x : Cell) : Gd := ⟨g.r, g.c, fun i k => if t ≤ i ∧ (i : Int) ≤ u then (if -20 ≤ n ∧ n ≤ 20 ∧ t ≤ (i : Int) + n ∧ (i : Int) + n ≤ u then g.f (i + n).toNat k else x) else g.f i k⟩
theorem idx_div {c i k : Nat} (hk : k < c) : (i * c + k) / c = i ∧ (i * c + k) % c = k := by
  refine ⟨?_, ?_⟩
  · rw [Nat.mul_comm, Nat.mul_add_div (by omega), Nat.div_eq_of_lt hk]; omega
  · rw [Nat.mul_comm, Nat.mul_add_mod, Nat.mod_eq_of_lt hk]
theorem flat_rc {g : Gd} {i k : Nat} (hi : i < g.r) (hk : k < g.c) : g.flat[i * g.c + k]! = g.f i k := by
  rw [flat_at (idx_lt hi hk), (idx_div hk).1, (idx_div hk).2]
theorem rmove_ok (E : Env) (g : Gd) (v : Value) (t u n pt fl fg bg : Int) (ok : g.Ok) (hh : g.rows t u 0) (hn : -60 ≤ n ∧ n ≤ 60) (hL : Sl E [] 11 v (g.r * g.c) (g.flat.flatMap Cell.renc)) : Does Try.prog 77 #[.agg #[.int .i64 g.r, .int .i64 g.c, v], .int .i64 t, .int .i64 u, .int .i64 n, .agg (Cell.renc ⟨pt, fl, fg, bg⟩).toArray] E ([]) fun r H' => ∃ a c, r = .agg #[.int .i64 g.r, .int .i64 g.c, .slice a (g.r * g.c) c] ∧ H' = [osl 49 11 (.slice a (g.r * g.c) c) (g.r * g.c) ((g.mv t u n ⟨pt, fl, fg, bg⟩).flat.flatMap Cell.renc)] := by
  have hb := ok.r
  have hc := ok.c
  have ha := area ok
  have hfl := flat_len' g
  obtain ⟨h1, h2, h3, h4⟩ := hh
  refine Does.go _ _ Try.func77 rfl Try.ntmps77 rfl rfl ?_
  refine Body.seq ?_
  refine Body.region ?_
  refine Ops.s (Stp.box (lk rfl) rfl (fun b5 => ?_)) rfl
  refine Ops.s (Stp.box (lk rfl) rfl (fun b9 => ?_)) rfl
  refine Ops.s (Stp.alloc ty29 (fun b10 => ?_)) rfl
  refine Ops.nil ?_
  refine Then.next ?_
  refine Body.seq ?_
  refine Body.region ?_
  refine Ops.u (Dtu.asg (lk rfl)) rfl ?_
  refine Ops.nil ?_
  refine Then.next ?_
  refine Body.seq ?_
  refine Body.seq ?_
  refine Body.region ?_
  refine Ops.u (Dtu.asg (lk rfl)) rfl ?_
  refine Ops.nil ?_
  refine Then.next ?_
  refine Body.block ?_
  refine Body.conseq (fun w s => osl_nil (t := 49) (sz := 11) (a := none) s) ?_
  have he : (g.mv t u n ⟨pt, fl, fg, bg⟩).flat = (List.range (g.r * g.c)).map fun j => (g.mv t u n ⟨pt, fl, fg, bg⟩).f (j / g.c) (j % g.c) := rfl
  refine Body.loopH (γ := RLs) rfl (fun s => [(12, .int .i64 s.i), (11, s.v)]) (fun s => [(0, osl 49 11 s.v s.i (((List.range s.i).map fun j => (g.mv t u n ⟨pt, fl, fg, bg⟩).f (j / g.c) (j % g.c)).flatMap Cell.renc))]) (fun s => s.i ≤ g.r * g.c) (fun s => g.r * g.c - s.i) (⟨0, .slice none 0 0⟩) (Nat.zero_le _) ⟨rfl, rfl, trivial⟩ rfl ?_
  rintro ⟨i, l⟩ u0 hi
  dsimp only at hi ⊢
  by_cases hlt : i < g.r * g.c
  · have hq := wquo (c := g.c) (show i ≤ 480 by omega)
    have hr := remN i g.c
    have hx := flat_at hlt
    have hs := pre_succ (fun j => (g.mv t u n ⟨pt, fl, fg, bg⟩).f (j / g.c) (j % g.c)) i
    have hd := div_lt' hlt
    have hm : i % g.c < g.c := Nat.mod_lt _ (by omega)
    by_cases hA : t ≤ ((i / g.c : Nat) : Int) ∧ ((i / g.c : Nat) : Int) ≤ u
    · by_cases hC : -20 ≤ n ∧ n ≤ 20 ∧ t ≤ ((i / g.c : Nat) : Int) + n ∧ ((i / g.c : Nat) : Int) + n ≤ u
      · obtain ⟨j, hj⟩ := Int.eq_ofNat_of_zero_le (show 0 ≤ ((i / g.c : Nat) : Int) + n by omega)
        have hw : IntKind.i64.wrap (((i / g.c : Nat) : Int) + n) = j := by rw [w64 (by omega) (by omega), hj]
        have hjr : j < g.r := by omega
        have hlt2 := idx_lt hjr hm
        have hF : (g.mv t u n ⟨pt, fl, fg, bg⟩).f (i / g.c) (i % g.c) = g.flat[j * g.c + i % g.c]! := by
          rw [flat_rc hjr hm]
          show (if _ then _ else _) = _
          rw [if_pos hA, if_pos hC, hj]; rfl
        rw [hF] at hs
        refine Body.seq ?_
        refine Body.seq ?_
        refine Body.region ?_
        refine Ops.u (Dtu.mv (lk rfl)) rfl ?_
        refine Ops.u (Dtu.fld fa29_2 (lk rfl)) rfl ?_
        refine Ops.d (Det.ld Try.isAgg27 (lk rfl) (Rd.ow 3 rfl rfl)) rfl ?_
        refine Ops.u (Dtu.lenS Try.underlying27 (Sl.up hL) (lk rfl)) rfl ?_
        refine Ops.u (Dtu.lss (lk rfl) (lk rfl)) rfl ?_
        refine Ops.nil ?_
        refine Then.next ?_
        refine Body.condP (lk rfl) (fun _ => ?_) (fun hn => absurd (by first | omega | assumption | decide) hn)
        refine Body.skip ?_
        refine Then.next ?_
        refine Body.seq ?_
        refine Body.block ?_
        refine Body.seq ?_
        refine Body.draw mixed ?_
        refine AB.u 0 rfl (by decide +kernel) (Dtu.mv (lk rfl)) rfl ?_
        refine AB.u 1 rfl (by decide +kernel) (Dtu.fld fa29_1 (lk rfl)) rfl ?_
        refine AB.d 2 rfl (by decide +kernel) rfl (Det.ld Try.isAgg3 (lk rfl) (Rd.ow 3 rfl rfl)) rfl ?_
        refine AB.u 3 rfl (by decide +kernel) (Dtu.quo (lk rfl) (lk rfl) (by first | decide | omega) (by with_reducible assumption)) rfl ?_
        refine AB.u 4 rfl (by decide +kernel) (Dtu.mv (lk rfl)) rfl ?_
        refine AB.u 5 rfl (by decide +kernel) (Dtu.fld fa29_1 (lk rfl)) rfl ?_
        refine AB.d 6 rfl (by decide +kernel) rfl (Det.ld Try.isAgg3 (lk rfl) (Rd.ow 3 rfl rfl)) rfl ?_
        refine AB.u 7 rfl (by decide +kernel) (Dtu.rem (lk rfl) (lk rfl) (by first | decide | omega) (by with_reducible assumption)) rfl ?_
        refine AB.u 8 rfl (by decide +kernel) (Dtu.asg (lk rfl)) rfl ?_
        refine AB.u 9 rfl (by decide +kernel) (Dtu.asg (lk rfl)) rfl ?_
        refine AB.done (by decide +kernel) ?_
        refine Then.next ?_
        refine Body.seq ?_
        refine Body.region ?_
        refine Ops.u (Dtu.fld fa29_2 (lk rfl)) rfl ?_
        refine Ops.d (Det.ld Try.isAgg27 (lk rfl) (Rd.ow 3 rfl rfl)) rfl ?_
        refine Ops.u (Dtu.mv (lk rfl)) rfl ?_
        refine Ops.u (Dtu.ix (i := (i)) Try.underlying27 Try.sizeOf49 (Sl.up hL) (lk rfl) (lk rfl) (by omega) (by omega)) rfl ?_
        refine Ops.d (Det.lda Try.isAgg49 Try.sizeOf49 (lk rfl) (Rds.sl (Sl.up hL) (gf (sz := 11) (fun _ => rfl) (by omega))) rfl) rfl ?_
        refine Ops.s (Stp.alloc ty49 (fun b15 => ?_)) rfl
        refine Ops.e (Stp.store 0 Try.sizeOf49 (lk rfl) (lk rfl) rfl rfl rfl rfl rfl rfl rfl ?_)
        refine Ops.nil ?_
        refine Then.next ?_
        refine Body.seq ?_
        refine Body.seq ?_
        refine Body.region ?_
        refine Ops.u (Dtu.mv (lk rfl)) rfl ?_
        refine Ops.u (Dtu.mv (lk rfl)) rfl ?_
        refine Ops.u (Dtu.geq (lk rfl) (lk rfl)) rfl ?_
        refine Ops.u (Dtu.mv (lk rfl)) rfl ?_
        refine Ops.decP 39 rfl (fun _ => ?_) (fun hn => absurd (by first | omega | assumption | decide) hn)
        refine Ops.gu rfl rfl rfl (Dtu.mv (lk rfl)) rfl ?_
        refine Ops.gu rfl rfl rfl (Dtu.mv (lk rfl)) rfl ?_
        refine Ops.gu rfl rfl rfl (Dtu.leq (lk rfl) (lk rfl)) rfl ?_
        refine Ops.u (Dtu.pickT (lk rfl) (lk rfl)) rfl ?_
        refine Ops.nil ?_
        refine Then.next ?_
        refine Body.condP (lk rfl) (fun _ => ?_) (fun hn => absurd (by first | omega | assumption | decide) hn)
        refine Body.seq ?_
        refine Body.region ?_
        refine Ops.d (Det.lda Try.isAgg49 Try.sizeOf49 (lk rfl) (Rds.ow (m := 11) 3 rfl rfl) rfl) rfl ?_
        refine Ops.e (Stp.store 0 Try.sizeOf49 (lk rfl) (lk rfl) rfl rfl rfl rfl rfl rfl rfl ?_)
        refine Ops.nil ?_
        refine Then.next ?_
        refine Body.seq ?_
        refine Body.region ?_
        refine Ops.u (Dtu.mv (lk rfl)) rfl ?_
        refine Ops.u (Dtu.geq (lk rfl) (lk rfl)) rfl ?_
        refine Ops.u (Dtu.mv (lk rfl)) rfl ?_
        refine Ops.decP 47 rfl (fun _ => ?_) (fun hn => absurd (by first | omega | assumption | decide) hn)
        refine Ops.gu rfl rfl rfl (Dtu.mv (lk rfl)) rfl ?_
        refine Ops.gu rfl rfl rfl (Dtu.leq (lk rfl) (lk rfl)) rfl ?_
        refine Ops.u (Dtu.pickT (lk rfl) (lk rfl)) rfl ?_
        refine Ops.u (Dtu.mv (lk rfl)) rfl ?_
        refine Ops.decP 51 rfl (fun _ => ?_) (fun hn => absurd (by first | omega | assumption | decide) hn)
        refine Ops.gu rfl rfl rfl (Dtu.mv (lk rfl)) rfl ?_
        refine Ops.gu rfl rfl rfl (Dtu.mv (lk rfl)) rfl ?_
        refine Ops.gu rfl rfl rfl (Dtu.add (lk rfl) (lk rfl) (by with_reducible assumption)) rfl ?_
        refine Ops.gu rfl rfl rfl (Dtu.mv (lk rfl)) rfl ?_
        refine Ops.gu rfl rfl rfl (Dtu.geq (lk rfl) (lk rfl)) rfl ?_
        refine Ops.u (Dtu.pickT (lk rfl) (lk rfl)) rfl ?_
        refine Ops.u (Dtu.mv (lk rfl)) rfl ?_
        refine Ops.decP 58 rfl (fun _ => ?_) (fun hn => absurd (by first | omega | assumption | decide) hn)
        refine Ops.gu rfl rfl rfl (Dtu.mv (lk rfl)) rfl ?_
        refine Ops.gu rfl rfl rfl (Dtu.mv (lk rfl)) rfl ?_
        refine Ops.gu rfl rfl rfl (Dtu.add (lk rfl) (lk rfl) (by with_reducible assumption)) rfl ?_
        refine Ops.gu rfl rfl rfl (Dtu.mv (lk rfl)) rfl ?_
        refine Ops.gu rfl rfl rfl (Dtu.leq (lk rfl) (lk rfl)) rfl ?_
        refine Ops.u (Dtu.pickT (lk rfl) (lk rfl)) rfl ?_
        refine Ops.nil ?_
        refine Then.next ?_
        refine Body.condP (lk rfl) (fun _ => ?_) (fun hn => absurd (by first | omega | assumption | decide) hn)
        refine Body.region ?_
        refine Ops.d (Det.lda Try.isAgg29 Try.sizeOf29 (lk rfl) (Rds.ow (m := 3) 4 rfl rfl) rfl) rfl ?_
        refine Ops.u (Dtu.mv (lk rfl)) rfl ?_
        refine Ops.u (Dtu.mv (lk rfl)) rfl ?_
        refine Ops.u (Dtu.add (lk rfl) (lk rfl) (by with_reducible assumption)) rfl ?_
        refine Ops.u (Dtu.mv (lk rfl)) rfl ?_
        refine Ops.s (Stp.inline _ _ Try.func19 rfl Try.ntmps19 rfl rfl rfl Try.call19 (lks rfl) ?_) rfl
        refine Body.seq ?_
        refine Body.region ?_
        refine Ops.s (Stp.box (lk rfl) rfl (fun b3 => ?_)) rfl
        refine Ops.s (Stp.alloc ty49 (fun b6 => ?_)) rfl
        refine Ops.nil ?_
        refine Then.next ?_
        refine Body.seq ?_
        refine Body.region ?_
        refine Ops.u (Dtu.fld fa29_2 (lk rfl)) rfl ?_
        refine Ops.d (Det.ld Try.isAgg27 (lk rfl) (Rd.ow 1 rfl rfl)) rfl ?_
        refine Ops.u (Dtu.mv (lk rfl)) rfl ?_
        refine Ops.u (Dtu.fld fa29_1 (lk rfl)) rfl ?_
        refine Ops.d (Det.ld Try.isAgg3 (lk rfl) (Rd.ow 1 rfl rfl)) rfl ?_
        refine Ops.u (Dtu.mul (lk rfl) (lk rfl) (w64 (by omega) (by omega))) rfl ?_
        refine Ops.u (Dtu.mv (lk rfl)) rfl ?_
        refine Ops.u (Dtu.add (lk rfl) (lk rfl) (w64 (by omega) (by omega))) rfl ?_
        refine Ops.u (Dtu.ix (i := (j * g.c + i % g.c)) Try.underlying27 Try.sizeOf49 (Sl.up hL) (lk rfl) (lk rfl) (by omega) (by omega)) rfl ?_
        refine Ops.d (Det.lda Try.isAgg49 Try.sizeOf49 (lk rfl) (Rds.sl (Sl.up hL) (gf (sz := 11) (fun _ => rfl) (by omega))) rfl) rfl ?_
        refine Ops.e (Stp.store 0 Try.sizeOf49 (lk rfl) (lk rfl) rfl rfl rfl rfl rfl rfl rfl ?_)
        refine Ops.nil ?_
        refine Then.next ?_
        refine Body.ret ?_
        refine RetK.r1 ⟨_, rfl, Loads.agg Try.isAgg49 Try.sizeOf49 (Rds.ow (m := 11) 0 rfl rfl) rfl⟩ ?_
        refine Ops.conseq (pk [2, 2, 2, 2, 2] rfl) ?_
        refine Ops.e (Stp.store 0 Try.sizeOf49 (lk rfl) (lk rfl) rfl rfl rfl rfl rfl rfl rfl ?_)
        refine Ops.nil ?_
        refine Then.next ?_
        refine Body.region ?_
        refine Ops.u (Dtu.mv (lk rfl)) rfl ?_
        refine Ops.d (Det.lda Try.isAgg49 Try.sizeOf49 (lk rfl) (Rds.ow (m := 11) 0 rfl rfl) rfl) rfl ?_
        refine Ops.s (Stp.buildSliceO Try.underlying27 ty49 (by decide) (by decide) (lkp rfl) rfl rfl rfl (by decide) (fun v73 => ?_)) rfl
        refine Ops.s (Stp.append 2 Try.underlying27 ty49 rfl rfl (lk rfl) (lk rfl) (Sl.osl 0 rfl) (by first | rfl | exact all_map (fun _ => rfl) _ | exact all_flat (fun _ => rfl) _) (by omega) (by omega) (fun v74 => ?_)) rfl
        refine Ops.u (Dtu.asg (lk rfl)) rfl ?_
        refine Ops.nil ?_
        refine Blk.norm ?_
        refine Then.next ?_
        refine Body.region ?_
        refine Ops.u (Dtu.mv (lk rfl)) rfl ?_
        refine Ops.u (Dtu.add (lk rfl) (lk rfl) (w64 (by omega) (by omega))) rfl ?_
        refine Ops.u (Dtu.asg (lk rfl)) rfl ?_
        refine Ops.nil ?_
        refine Round.goK [2, 2, 2, 2] ⟨i + 1, v74⟩ rfl rfl rfl ⟨rfl, rfl, trivial⟩ rfl (by dsimp only; rw [hs]; rfl) (by dsimp only; omega) (by dsimp only; omega)
      · have hF : (g.mv t u n ⟨pt, fl, fg, bg⟩).f (i / g.c) (i % g.c) = ⟨pt, fl, fg, bg⟩ := by
          show (if _ then _ else _) = _
          rw [if_pos hA, if_neg hC]
        rw [hF] at hs
        refine Body.seq ?_
        refine Body.seq ?_
        refine Body.region ?_
        refine Ops.u (Dtu.mv (lk rfl)) rfl ?_
        refine Ops.u (Dtu.fld fa29_2 (lk rfl)) rfl ?_
        refine Ops.d (Det.ld Try.isAgg27 (lk rfl) (Rd.ow 3 rfl rfl)) rfl ?_
        refine Ops.u (Dtu.lenS Try.underlying27 (Sl.up hL) (lk rfl)) rfl ?_
        refine Ops.u (Dtu.lss (lk rfl) (lk rfl)) rfl ?_
        refine Ops.nil ?_
        refine Then.next ?_
        refine Body.condP (lk rfl) (fun _ => ?_) (fun hn => absurd (by first | omega | assumption | decide) hn)
        refine Body.skip ?_
        refine Then.next ?_
        refine Body.seq ?_
        refine Body.block ?_
        refine Body.seq ?_
        refine Body.draw mixed ?_
        refine AB.u 0 rfl (by decide +kernel) (Dtu.mv (lk rfl)) rfl ?_
        refine AB.u 1 rfl (by decide +kernel) (Dtu.fld fa29_1 (lk rfl)) rfl ?_
        refine AB.d 2 rfl (by decide +kernel) rfl (Det.ld Try.isAgg3 (lk rfl) (Rd.ow 3 rfl rfl)) rfl ?_
        refine AB.u 3 rfl (by decide +kernel) (Dtu.quo (lk rfl) (lk rfl) (by first | decide | omega) (by with_reducible assumption)) rfl ?_
        refine AB.u 4 rfl (by decide +kernel) (Dtu.mv (lk rfl)) rfl ?_
        refine AB.u 5 rfl (by decide +kernel) (Dtu.fld fa29_1 (lk rfl)) rfl ?_
        refine AB.d 6 rfl (by decide +kernel) rfl (Det.ld Try.isAgg3 (lk rfl) (Rd.ow 3 rfl rfl)) rfl ?_
        refine AB.u 7 rfl (by decide +kernel) (Dtu.rem (lk rfl) (lk rfl) (by first | decide | omega) (by with_reducible assumption)) rfl ?_
        refine AB.u 8 rfl (by decide +kernel) (Dtu.asg (lk rfl)) rfl ?_
        refine AB.u 9 rfl (by decide +kernel) (Dtu.asg (lk rfl)) rfl ?_
        refine AB.done (by decide +kernel) ?_
        refine Then.next ?_
        refine Body.seq ?_
        refine Body.region ?_
        refine Ops.u (Dtu.fld fa29_2 (lk rfl)) rfl ?_
        refine Ops.d (Det.ld Try.isAgg27 (lk rfl) (Rd.ow 3 rfl rfl)) rfl ?_
        refine Ops.u (Dtu.mv (lk rfl)) rfl ?_
        refine Ops.u (Dtu.ix (i := (i)) Try.underlying27 Try.sizeOf49 (Sl.up hL) (lk rfl) (lk rfl) (by omega) (by omega)) rfl ?_
        refine Ops.d (Det.lda Try.isAgg49 Try.sizeOf49 (lk rfl) (Rds.sl (Sl.up hL) (gf (sz := 11) (fun _ => rfl) (by omega))) rfl) rfl ?_
        refine Ops.s (Stp.alloc ty49 (fun b15 => ?_)) rfl
        refine Ops.e (Stp.store 0 Try.sizeOf49 (lk rfl) (lk rfl) rfl rfl rfl rfl rfl rfl rfl ?_)
        refine Ops.nil ?_
        refine Then.next ?_
        refine Body.seq ?_
        refine Body.seq ?_
        refine Body.region ?_
        refine Ops.u (Dtu.mv (lk rfl)) rfl ?_
        refine Ops.u (Dtu.mv (lk rfl)) rfl ?_
        refine Ops.u (Dtu.geq (lk rfl) (lk rfl)) rfl ?_
        refine Ops.u (Dtu.mv (lk rfl)) rfl ?_
        refine Ops.decP 39 rfl (fun _ => ?_) (fun hn => absurd (by first | omega | assumption | decide) hn)
        refine Ops.gu rfl rfl rfl (Dtu.mv (lk rfl)) rfl ?_
        refine Ops.gu rfl rfl rfl (Dtu.mv (lk rfl)) rfl ?_
        refine Ops.gu rfl rfl rfl (Dtu.leq (lk rfl) (lk rfl)) rfl ?_
        refine Ops.u (Dtu.pickT (lk rfl) (lk rfl)) rfl ?_
        refine Ops.nil ?_
        refine Then.next ?_
        refine Body.condP (lk rfl) (fun _ => ?_) (fun hn => absurd (by first | omega | assumption | decide) hn)
        refine Body.seq ?_
        refine Body.region ?_
        refine Ops.d (Det.lda Try.isAgg49 Try.sizeOf49 (lk rfl) (Rds.ow (m := 11) 3 rfl rfl) rfl) rfl ?_
        refine Ops.e (Stp.store 0 Try.sizeOf49 (lk rfl) (lk rfl) rfl rfl rfl rfl rfl rfl rfl ?_)
        refine Ops.nil ?_
        refine Then.next ?_
        refine Body.seq ?_
        refine Body.region ?_
        refine Ops.u (Dtu.mv (lk rfl)) rfl ?_
        refine Ops.u (Dtu.geq (lk rfl) (lk rfl)) rfl ?_
        refine Ops.u (Dtu.mv (lk rfl)) rfl ?_
        refine Ops.decP 47 rfl (fun c47 => ?_) (fun c47 => ?_)
        · refine Ops.gu rfl rfl rfl (Dtu.mv (lk rfl)) rfl ?_
          refine Ops.gu rfl rfl rfl (Dtu.leq (lk rfl) (lk rfl)) rfl ?_
          refine Ops.u (Dtu.pickT (lk rfl) (lk rfl)) rfl ?_
          refine Ops.u (Dtu.mv (lk rfl)) rfl ?_
          refine Ops.decP 51 rfl (fun c51 => ?_) (fun c51 => ?_)
          · refine Ops.gu rfl rfl rfl (Dtu.mv (lk rfl)) rfl ?_
            refine Ops.gu rfl rfl rfl (Dtu.mv (lk rfl)) rfl ?_
            refine Ops.gu rfl rfl rfl (Dtu.add (lk rfl) (lk rfl) (w64 (by omega) (by omega))) rfl ?_
            refine Ops.gu rfl rfl rfl (Dtu.mv (lk rfl)) rfl ?_
            refine Ops.gu rfl rfl rfl (Dtu.geq (lk rfl) (lk rfl)) rfl ?_
            refine Ops.u (Dtu.pickT (lk rfl) (lk rfl)) rfl ?_
            refine Ops.u (Dtu.mv (lk rfl)) rfl ?_
            refine Ops.decP 58 rfl (fun c58 => ?_) (fun c58 => ?_)
            · refine Ops.gu rfl rfl rfl (Dtu.mv (lk rfl)) rfl ?_
              refine Ops.gu rfl rfl rfl (Dtu.mv (lk rfl)) rfl ?_
              refine Ops.gu rfl rfl rfl (Dtu.add (lk rfl) (lk rfl) (w64 (by omega) (by omega))) rfl ?_
              refine Ops.gu rfl rfl rfl (Dtu.mv (lk rfl)) rfl ?_
              refine Ops.gu rfl rfl rfl (Dtu.leq (lk rfl) (lk rfl)) rfl ?_
              refine Ops.u (Dtu.pickT (lk rfl) (lk rfl)) rfl ?_
              refine Ops.nil ?_
              refine Then.next ?_
              refine Body.condP (lk rfl) (fun hy => absurd hy (by first | omega | assumption | decide)) (fun _ => ?_)
              refine Body.skip ?_
              refine Then.next ?_
              refine Body.region ?_
              refine Ops.u (Dtu.mv (lk rfl)) rfl ?_
              refine Ops.d (Det.lda Try.isAgg49 Try.sizeOf49 (lk rfl) (Rds.ow (m := 11) 0 rfl rfl) rfl) rfl ?_
              refine Ops.s (Stp.buildSliceO Try.underlying27 ty49 (by decide) (by decide) (lkp rfl) rfl rfl rfl (by decide) (fun v73 => ?_)) rfl
              refine Ops.s (Stp.append 2 Try.underlying27 ty49 rfl rfl (lk rfl) (lk rfl) (Sl.osl 0 rfl) (by first | rfl | exact all_map (fun _ => rfl) _ | exact all_flat (fun _ => rfl) _) (by omega) (by omega) (fun v74 => ?_)) rfl
              refine Ops.u (Dtu.asg (lk rfl)) rfl ?_
              refine Ops.nil ?_
              refine Blk.norm ?_
              refine Then.next ?_
              refine Body.region ?_
              refine Ops.u (Dtu.mv (lk rfl)) rfl ?_
              refine Ops.u (Dtu.add (lk rfl) (lk rfl) (w64 (by omega) (by omega))) rfl ?_
              refine Ops.u (Dtu.asg (lk rfl)) rfl ?_
              refine Ops.nil ?_
              refine Round.goK [2, 2, 2, 2] ⟨i + 1, v74⟩ rfl rfl rfl ⟨rfl, rfl, trivial⟩ rfl (by dsimp only; rw [hs]; rfl) (by dsimp only; omega) (by dsimp only; omega)
            · refine Ops.gn rfl rfl rfl rfl rfl ?_
              refine Ops.gn rfl rfl rfl rfl rfl ?_
              refine Ops.gn rfl rfl rfl rfl rfl ?_
              refine Ops.gn rfl rfl rfl rfl rfl ?_
              refine Ops.gn rfl rfl rfl rfl rfl ?_
              refine Ops.u (Dtu.pickF (lk rfl) (lk rfl)) rfl ?_
              refine Ops.nil ?_
              refine Then.next ?_
              refine Body.condF (lk rfl) ?_
              refine Body.skip ?_
              refine Then.next ?_
              refine Body.region ?_
              refine Ops.u (Dtu.mv (lk rfl)) rfl ?_
              refine Ops.d (Det.lda Try.isAgg49 Try.sizeOf49 (lk rfl) (Rds.ow (m := 11) 0 rfl rfl) rfl) rfl ?_
              refine Ops.s (Stp.buildSliceO Try.underlying27 ty49 (by decide) (by decide) (lkp rfl) rfl rfl rfl (by decide) (fun v73 => ?_)) rfl
              refine Ops.s (Stp.append 2 Try.underlying27 ty49 rfl rfl (lk rfl) (lk rfl) (Sl.osl 0 rfl) (by first | rfl | exact all_map (fun _ => rfl) _ | exact all_flat (fun _ => rfl) _) (by omega) (by omega) (fun v74 => ?_)) rfl
              refine Ops.u (Dtu.asg (lk rfl)) rfl ?_
              refine Ops.nil ?_
              refine Blk.norm ?_
              refine Then.next ?_
              refine Body.region ?_
              refine Ops.u (Dtu.mv (lk rfl)) rfl ?_
              refine Ops.u (Dtu.add (lk rfl) (lk rfl) (w64 (by omega) (by omega))) rfl ?_
              refine Ops.u (Dtu.asg (lk rfl)) rfl ?_
              refine Ops.nil ?_
              refine Round.goK [2, 2, 2, 2] ⟨i + 1, v74⟩ rfl rfl rfl ⟨rfl, rfl, trivial⟩ rfl (by dsimp only; rw [hs]; rfl) (by dsimp only; omega) (by dsimp only; omega)
          · refine Ops.gn rfl rfl rfl rfl rfl ?_
            refine Ops.gn rfl rfl rfl rfl rfl ?_
            refine Ops.gn rfl rfl rfl rfl rfl ?_
            refine Ops.gn rfl rfl rfl rfl rfl ?_
            refine Ops.gn rfl rfl rfl rfl rfl ?_
            refine Ops.u (Dtu.pickF (lk rfl) (lk rfl)) rfl ?_
            refine Ops.u (Dtu.mv (lk rfl)) rfl ?_
            refine Ops.gn rfl rfl rfl rfl rfl ?_
            refine Ops.gn rfl rfl rfl rfl rfl ?_
            refine Ops.gn rfl rfl rfl rfl rfl ?_
            refine Ops.gn rfl rfl rfl rfl rfl ?_
            refine Ops.gn rfl rfl rfl rfl rfl ?_
            refine Ops.u (Dtu.pickF (lk rfl) (lk rfl)) rfl ?_
            refine Ops.nil ?_
            refine Then.next ?_
            refine Body.condF (lk rfl) ?_
            refine Body.skip ?_
            refine Then.next ?_
            refine Body.region ?_
            refine Ops.u (Dtu.mv (lk rfl)) rfl ?_
            refine Ops.d (Det.lda Try.isAgg49 Try.sizeOf49 (lk rfl) (Rds.ow (m := 11) 0 rfl rfl) rfl) rfl ?_
            refine Ops.s (Stp.buildSliceO Try.underlying27 ty49 (by decide) (by decide) (lkp rfl) rfl rfl rfl (by decide) (fun v73 => ?_)) rfl
            refine Ops.s (Stp.append 2 Try.underlying27 ty49 rfl rfl (lk rfl) (lk rfl) (Sl.osl 0 rfl) (by first | rfl | exact all_map (fun _ => rfl) _ | exact all_flat (fun _ => rfl) _) (by omega) (by omega) (fun v74 => ?_)) rfl
            refine Ops.u (Dtu.asg (lk rfl)) rfl ?_
            refine Ops.nil ?_
            refine Blk.norm ?_
            refine Then.next ?_
            refine Body.region ?_
            refine Ops.u (Dtu.mv (lk rfl)) rfl ?_
            refine Ops.u (Dtu.add (lk rfl) (lk rfl) (w64 (by omega) (by omega))) rfl ?_
            refine Ops.u (Dtu.asg (lk rfl)) rfl ?_
            refine Ops.nil ?_
            refine Round.goK [2, 2, 2, 2] ⟨i + 1, v74⟩ rfl rfl rfl ⟨rfl, rfl, trivial⟩ rfl (by dsimp only; rw [hs]; rfl) (by dsimp only; omega) (by dsimp only; omega)
        · refine Ops.gn rfl rfl rfl rfl rfl ?_
          refine Ops.gn rfl rfl rfl rfl rfl ?_
          refine Ops.u (Dtu.pickF (lk rfl) (lk rfl)) rfl ?_
          refine Ops.u (Dtu.mv (lk rfl)) rfl ?_
          refine Ops.gn rfl rfl rfl rfl rfl ?_
          refine Ops.gn rfl rfl rfl rfl rfl ?_
          refine Ops.gn rfl rfl rfl rfl rfl ?_
          refine Ops.gn rfl rfl rfl rfl rfl ?_
          refine Ops.gn rfl rfl rfl rfl rfl ?_
          refine Ops.u (Dtu.pickF (lk rfl) (lk rfl)) rfl ?_
          refine Ops.u (Dtu.mv (lk rfl)) rfl ?_
          refine Ops.gn rfl rfl rfl rfl rfl ?_
          refine Ops.gn rfl rfl rfl rfl rfl ?_
          refine Ops.gn rfl rfl rfl rfl rfl ?_
          refine Ops.gn rfl rfl rfl rfl rfl ?_
          refine Ops.gn rfl rfl rfl rfl rfl ?_
          refine Ops.u (Dtu.pickF (lk rfl) (lk rfl)) rfl ?_
          refine Ops.nil ?_
          refine Then.next ?_
          refine Body.condF (lk rfl) ?_
          refine Body.skip ?_
          refine Then.next ?_
          refine Body.region ?_
          refine Ops.u (Dtu.mv (lk rfl)) rfl ?_
          refine Ops.d (Det.lda Try.isAgg49 Try.sizeOf49 (lk rfl) (Rds.ow (m := 11) 0 rfl rfl) rfl) rfl ?_
          refine Ops.s (Stp.buildSliceO Try.underlying27 ty49 (by decide) (by decide) (lkp rfl) rfl rfl rfl (by decide) (fun v73 => ?_)) rfl
          refine Ops.s (Stp.append 2 Try.underlying27 ty49 rfl rfl (lk rfl) (lk rfl) (Sl.osl 0 rfl) (by first | rfl | exact all_map (fun _ => rfl) _ | exact all_flat (fun _ => rfl) _) (by omega) (by omega) (fun v74 => ?_)) rfl
          refine Ops.u (Dtu.asg (lk rfl)) rfl ?_
          refine Ops.nil ?_
          refine Blk.norm ?_
          refine Then.next ?_
          refine Body.region ?_
          refine Ops.u (Dtu.mv (lk rfl)) rfl ?_
          refine Ops.u (Dtu.add (lk rfl) (lk rfl) (w64 (by omega) (by omega))) rfl ?_
          refine Ops.u (Dtu.asg (lk rfl)) rfl ?_
          refine Ops.nil ?_
          refine Round.goK [2, 2, 2, 2] ⟨i + 1, v74⟩ rfl rfl rfl ⟨rfl, rfl, trivial⟩ rfl (by dsimp only; rw [hs]; rfl) (by dsimp only; omega) (by dsimp only; omega)
    · have hF : (g.mv t u n ⟨pt, fl, fg, bg⟩).f (i / g.c) (i % g.c) = g.flat[i]! := by
        rw [hx]
        show (if _ then _ else _) = _
        rw [if_neg hA]
      rw [hF] at hs
      refine Body.seq ?_
      refine Body.seq ?_
      refine Body.region ?_
      refine Ops.u (Dtu.mv (lk rfl)) rfl ?_
      refine Ops.u (Dtu.fld fa29_2 (lk rfl)) rfl ?_
      refine Ops.d (Det.ld Try.isAgg27 (lk rfl) (Rd.ow 3 rfl rfl)) rfl ?_
      refine Ops.u (Dtu.lenS Try.underlying27 (Sl.up hL) (lk rfl)) rfl ?_
      refine Ops.u (Dtu.lss (lk rfl) (lk rfl)) rfl ?_
      refine Ops.nil ?_
      refine Then.next ?_
      refine Body.condP (lk rfl) (fun _ => ?_) (fun hn => absurd (by first | omega | assumption | decide) hn)
      refine Body.skip ?_
      refine Then.next ?_
      refine Body.seq ?_
      refine Body.block ?_
      refine Body.seq ?_
      refine Body.draw mixed ?_
      refine AB.u 0 rfl (by decide +kernel) (Dtu.mv (lk rfl)) rfl ?_
      refine AB.u 1 rfl (by decide +kernel) (Dtu.fld fa29_1 (lk rfl)) rfl ?_
      refine AB.d 2 rfl (by decide +kernel) rfl (Det.ld Try.isAgg3 (lk rfl) (Rd.ow 3 rfl rfl)) rfl ?_
      refine AB.u 3 rfl (by decide +kernel) (Dtu.quo (lk rfl) (lk rfl) (by first | decide | omega) (by with_reducible assumption)) rfl ?_
      refine AB.u 4 rfl (by decide +kernel) (Dtu.mv (lk rfl)) rfl ?_
      refine AB.u 5 rfl (by decide +kernel) (Dtu.fld fa29_1 (lk rfl)) rfl ?_
      refine AB.d 6 rfl (by decide +kernel) rfl (Det.ld Try.isAgg3 (lk rfl) (Rd.ow 3 rfl rfl)) rfl ?_
      refine AB.u 7 rfl (by decide +kernel) (Dtu.rem (lk rfl) (lk rfl) (by first | decide | omega) (by with_reducible assumption)) rfl ?_
      refine AB.u 8 rfl (by decide +kernel) (Dtu.asg (lk rfl)) rfl ?_
      refine AB.u 9 rfl (by decide +kernel) (Dtu.asg (lk rfl)) rfl ?_
      refine AB.done (by decide +kernel) ?_
      refine Then.next ?_
      refine Body.seq ?_
      refine Body.region ?_
      refine Ops.u (Dtu.fld fa29_2 (lk rfl)) rfl ?_
      refine Ops.d (Det.ld Try.isAgg27 (lk rfl) (Rd.ow 3 rfl rfl)) rfl ?_
      refine Ops.u (Dtu.mv (lk rfl)) rfl ?_
      refine Ops.u (Dtu.ix (i := (i)) Try.underlying27 Try.sizeOf49 (Sl.up hL) (lk rfl) (lk rfl) (by omega) (by omega)) rfl ?_
      refine Ops.d (Det.lda Try.isAgg49 Try.sizeOf49 (lk rfl) (Rds.sl (Sl.up hL) (gf (sz := 11) (fun _ => rfl) (by omega))) rfl) rfl ?_
      refine Ops.s (Stp.alloc ty49 (fun b15 => ?_)) rfl
      refine Ops.e (Stp.store 0 Try.sizeOf49 (lk rfl) (lk rfl) rfl rfl rfl rfl rfl rfl rfl ?_)
      refine Ops.nil ?_
      refine Then.next ?_
      refine Body.seq ?_
      refine Body.seq ?_
      refine Body.region ?_
      refine Ops.u (Dtu.mv (lk rfl)) rfl ?_
      refine Ops.u (Dtu.mv (lk rfl)) rfl ?_
      refine Ops.u (Dtu.geq (lk rfl) (lk rfl)) rfl ?_
      refine Ops.u (Dtu.mv (lk rfl)) rfl ?_
      refine Ops.decP 39 rfl (fun c39 => ?_) (fun c39 => ?_)
      · refine Ops.gu rfl rfl rfl (Dtu.mv (lk rfl)) rfl ?_
        refine Ops.gu rfl rfl rfl (Dtu.mv (lk rfl)) rfl ?_
        refine Ops.gu rfl rfl rfl (Dtu.leq (lk rfl) (lk rfl)) rfl ?_
        refine Ops.u (Dtu.pickT (lk rfl) (lk rfl)) rfl ?_
        refine Ops.nil ?_
        refine Then.next ?_
        refine Body.condP (lk rfl) (fun hy => absurd hy (by first | omega | assumption | decide)) (fun _ => ?_)
        refine Body.skip ?_
        refine Then.next ?_
        refine Body.region ?_
        refine Ops.u (Dtu.mv (lk rfl)) rfl ?_
        refine Ops.d (Det.lda Try.isAgg49 Try.sizeOf49 (lk rfl) (Rds.ow (m := 11) 0 rfl rfl) rfl) rfl ?_
        refine Ops.s (Stp.buildSliceO Try.underlying27 ty49 (by decide) (by decide) (lkp rfl) rfl rfl rfl (by decide) (fun v73 => ?_)) rfl
        refine Ops.s (Stp.append 2 Try.underlying27 ty49 rfl rfl (lk rfl) (lk rfl) (Sl.osl 0 rfl) (by first | rfl | exact all_map (fun _ => rfl) _ | exact all_flat (fun _ => rfl) _) (by omega) (by omega) (fun v74 => ?_)) rfl
        refine Ops.u (Dtu.asg (lk rfl)) rfl ?_
        refine Ops.nil ?_
        refine Blk.norm ?_
        refine Then.next ?_
        refine Body.region ?_
        refine Ops.u (Dtu.mv (lk rfl)) rfl ?_
        refine Ops.u (Dtu.add (lk rfl) (lk rfl) (w64 (by omega) (by omega))) rfl ?_
        refine Ops.u (Dtu.asg (lk rfl)) rfl ?_
        refine Ops.nil ?_
        refine Round.goK [2, 2, 2, 2] ⟨i + 1, v74⟩ rfl rfl rfl ⟨rfl, rfl, trivial⟩ rfl (by dsimp only; rw [hs]; rfl) (by dsimp only; omega) (by dsimp only; omega)
      · refine Ops.gn rfl rfl rfl rfl rfl ?_
        refine Ops.gn rfl rfl rfl rfl rfl ?_
        refine Ops.gn rfl rfl rfl rfl rfl ?_
        refine Ops.u (Dtu.pickF (lk rfl) (lk rfl)) rfl ?_
        refine Ops.nil ?_
        refine Then.next ?_
        refine Body.condF (lk rfl) ?_
        refine Body.skip ?_
        refine Then.next ?_
        refine Body.region ?_
        refine Ops.u (Dtu.mv (lk rfl)) rfl ?_
        refine Ops.d (Det.lda Try.isAgg49 Try.sizeOf49 (lk rfl) (Rds.ow (m := 11) 0 rfl rfl) rfl) rfl ?_
        refine Ops.s (Stp.buildSliceO Try.underlying27 ty49 (by decide) (by decide) (lkp rfl) rfl rfl rfl (by decide) (fun v73 => ?_)) rfl
        refine Ops.s (Stp.append 2 Try.underlying27 ty49 rfl rfl (lk rfl) (lk rfl) (Sl.osl 0 rfl) (by first | rfl | exact all_map (fun _ => rfl) _ | exact all_flat (fun _ => rfl) _) (by omega) (by omega) (fun v74 => ?_)) rfl
        refine Ops.u (Dtu.asg (lk rfl)) rfl ?_
        refine Ops.nil ?_
        refine Blk.norm ?_
        refine Then.next ?_
        refine Body.region ?_
        refine Ops.u (Dtu.mv (lk rfl)) rfl ?_
        refine Ops.u (Dtu.add (lk rfl) (lk rfl) (w64 (by omega) (by omega))) rfl ?_
        refine Ops.u (Dtu.asg (lk rfl)) rfl ?_
        refine Ops.nil ?_
        refine Round.goK [2, 2, 2, 2] ⟨i + 1, v74⟩ rfl rfl rfl ⟨rfl, rfl, trivial⟩ rfl (by dsimp only; rw [hs]; rfl) (by dsimp only; omega) (by dsimp only; omega)
  · obtain rfl : i = g.r * g.c := by omega
    rw [he]
    refine Body.seq ?_
    refine Body.seq ?_
    refine Body.region ?_
    refine Ops.u (Dtu.mv (lk rfl)) rfl ?_
    refine Ops.u (Dtu.fld fa29_2 (lk rfl)) rfl ?_
    refine Ops.d (Det.ld Try.isAgg27 (lk rfl) (Rd.ow 3 rfl rfl)) rfl ?_
    refine Ops.u (Dtu.lenS Try.underlying27 (Sl.up hL) (lk rfl)) rfl ?_
    refine Ops.u (Dtu.lss (lk rfl) (lk rfl)) rfl ?_
    refine Ops.nil ?_
    refine Then.next ?_
    refine Body.condP (lk rfl) (fun hy => absurd hy (by first | omega | assumption | decide)) (fun _ => ?_)
    refine Body.exit ?_
    refine Then.exit ?_
    refine Round.exit ?_
    refine Blk.here ?_
    refine Then.next ?_
    refine Body.seq ?_
    refine Body.region ?_
    refine Ops.d (Det.lda Try.isAgg29 Try.sizeOf29 (lk rfl) (Rds.ow (m := 3) 3 rfl rfl) rfl) rfl ?_
    refine Ops.u (Dtu.mv (lk rfl)) rfl ?_
    refine Ops.s (Stp.inline _ _ Try.func109 rfl Try.ntmps109 rfl rfl rfl Try.call109 (lks rfl) ?_) rfl
    refine Body.seq ?_
    refine Body.region ?_
    refine Ops.s (Stp.box (lk rfl) rfl (fun b2 => ?_)) rfl
    refine Ops.s (Stp.alloc ty29 (fun b4 => ?_)) rfl
    refine Ops.nil ?_
    refine Then.next ?_
    refine Body.seq ?_
    refine Body.region ?_
    refine Ops.u (Dtu.fld fa29_0 (lk rfl)) rfl ?_
    refine Ops.d (Det.ld Try.isAgg3 (lk rfl) (Rd.ow 1 rfl rfl)) rfl ?_
    refine Ops.u (Dtu.fld fa29_1 (lk rfl)) rfl ?_
    refine Ops.d (Det.ld Try.isAgg3 (lk rfl) (Rd.ow 1 rfl rfl)) rfl ?_
    refine Ops.u (Dtu.mv (lk rfl)) rfl ?_
    refine Ops.pure (Sl.shape (Sl.osl 2 rfl)) fun hsll => ?_
    obtain ⟨la, lc, rfl⟩ := hsll
    refine Ops.u (Dtu.build ty29 pl29 (lkp rfl) rfl rfl) rfl ?_
    refine Ops.e (Stp.store 0 Try.sizeOf29 (lk rfl) (lk rfl) rfl rfl rfl rfl rfl rfl rfl ?_)
    refine Ops.nil ?_
    refine Then.next ?_
    refine Body.ret ?_
    refine RetK.r1 ⟨_, rfl, Loads.agg Try.isAgg29 Try.sizeOf29 (Rds.ow (m := 3) 0 rfl rfl) rfl⟩ ?_
    refine Ops.conseq (pk [2, 2, 2, 2] rfl) ?_
    refine Ops.e (Stp.store 1 Try.sizeOf29 (lk rfl) (lk rfl) rfl rfl rfl rfl rfl rfl rfl ?_)
    refine Ops.nil ?_
    refine Then.next ?_
    refine Body.ret ?_
    exact ⟨.inr rfl, _, Loads.agg Try.isAgg29 Try.sizeOf29 (Rds.ow (m := 3) 1 rfl rfl) rfl, _, pk [0] rfl, la, lc, rfl, rfl⟩
end Go.Proofs.Ytpmapedhigjalaa
end
section
/- The document's grid: Shift, Resize. -/
namespace Go.Proofs.Ytpmapedhigjalaa
set_option maxRecDepth 100000
set_option linter.unusedVariables false
set_option linter.unusedSimpArgs false
open Go.Sx

def Gd.sh (g : Gd) (row col n : Int) (x : Cell) : Gd := ⟨g.r, g.c, fun i k => if (i : Int) = row ∧ col ≤ k then (if -50 ≤ n ∧ n ≤ 50 ∧ col ≤ (k : Int) + n ∧ (k : Int) + n < g.c then g.f i (k + n).toNat else x) else g.f i k⟩
theorem rshift_ok (E : Env) (g : Gd) (v : Value) (row col n pt fl fg bg : Int) (ok : g.Ok) (hh : g.has row col) (hn : -60 ≤ n ∧ n ≤ 60) (hL : Sl E [] 11 v (g.r * g.c) (g.flat.flatMap Cell.renc)) : Does Try.prog 78 #[.agg #[.int .i64 g.r, .int .i64 g.c, v], .int .i64 row, .int .i64 col, .int .i64 n, .agg (Cell.renc ⟨pt, fl, fg, bg⟩).toArray] E ([]) fun r H' => ∃ a c, r = .agg #[.int .i64 g.r, .int .i64 g.c, .slice a (g.r * g.c) c] ∧ H' = [osl 49 11 (.slice a (g.r * g.c) c) (g.r * g.c) ((g.sh row col n ⟨pt, fl, fg, bg⟩).flat.flatMap Cell.renc)] := by
  have hb := ok.r
  have hc := ok.c
  have ha := area ok
  have hfl := flat_len' g
  obtain ⟨h1, h2, h3, h4⟩ := hh
  obtain ⟨i0, rfl⟩ := Int.eq_ofNat_of_zero_le h1
  refine Does.go _ _ Try.func78 rfl Try.ntmps78 rfl rfl ?_
  refine Body.seq ?_
  refine Body.region ?_
  refine Ops.s (Stp.box (lk rfl) rfl (fun b5 => ?_)) rfl
  refine Ops.s (Stp.box (lk rfl) rfl (fun b9 => ?_)) rfl
  refine Ops.s (Stp.alloc ty29 (fun b10 => ?_)) rfl
  refine Ops.nil ?_
  refine Then.next ?_
  refine Body.seq ?_
  refine Body.region ?_
  refine Ops.u (Dtu.asg (lk rfl)) rfl ?_
  refine Ops.nil ?_
  refine Then.next ?_
  refine Body.seq ?_
  refine Body.seq ?_
  refine Body.region ?_
  refine Ops.u (Dtu.asg (lk rfl)) rfl ?_
  refine Ops.nil ?_
  refine Then.next ?_
  refine Body.block ?_
  refine Body.conseq (fun w s => osl_nil (t := 49) (sz := 11) (a := none) s) ?_
  have he : (g.sh i0 col n ⟨pt, fl, fg, bg⟩).flat = (List.range (g.r * g.c)).map fun j => (g.sh i0 col n ⟨pt, fl, fg, bg⟩).f (j / g.c) (j % g.c) := rfl
  refine Body.loopH (γ := RLs) rfl (fun s => [(12, .int .i64 s.i), (11, s.v)]) (fun s => [(0, osl 49 11 s.v s.i (((List.range s.i).map fun j => (g.sh i0 col n ⟨pt, fl, fg, bg⟩).f (j / g.c) (j % g.c)).flatMap Cell.renc))]) (fun s => s.i ≤ g.r * g.c) (fun s => g.r * g.c - s.i) (⟨0, .slice none 0 0⟩) (Nat.zero_le _) ⟨rfl, rfl, trivial⟩ rfl ?_
  rintro ⟨i, l⟩ u0 hi
  dsimp only at hi ⊢
  by_cases hlt : i < g.r * g.c
  · have hq := wquo (c := g.c) (show i ≤ 480 by omega)
    have hr := remN i g.c
    have hx := flat_at hlt
    have hs := pre_succ (fun j => (g.sh i0 col n ⟨pt, fl, fg, bg⟩).f (j / g.c) (j % g.c)) i
    have hd := div_lt' hlt
    have hm : i % g.c < g.c := Nat.mod_lt _ (by omega)
    by_cases hA : ((i / g.c : Nat) : Int) = i0 ∧ col ≤ ((i % g.c : Nat) : Int)
    · by_cases hC : -50 ≤ n ∧ n ≤ 50 ∧ col ≤ ((i % g.c : Nat) : Int) + n ∧ ((i % g.c : Nat) : Int) + n < g.c
      · obtain ⟨j, hj⟩ := Int.eq_ofNat_of_zero_le (show 0 ≤ ((i % g.c : Nat) : Int) + n by omega)
        have hw : IntKind.i64.wrap (((i % g.c : Nat) : Int) + n) = j := by rw [w64 (by omega) (by omega), hj]
        have hjr : j < g.c := by omega
        have hi0 : i0 < g.r := by omega
        have hlt2 := idx_lt hi0 hjr
        have hF : (g.sh i0 col n ⟨pt, fl, fg, bg⟩).f (i / g.c) (i % g.c) = g.flat[i0 * g.c + j]! := by
          rw [flat_rc hi0 hjr]
          show (if _ then _ else _) = _
          rw [if_pos hA, if_pos hC, hj, show i / g.c = i0 by omega]; rfl
        rw [hF] at hs
        refine Body.seq ?_
        refine Body.seq ?_
        refine Body.region ?_
        refine Ops.u (Dtu.mv (lk rfl)) rfl ?_
        refine Ops.u (Dtu.fld fa29_2 (lk rfl)) rfl ?_
        refine Ops.d (Det.ld Try.isAgg27 (lk rfl) (Rd.ow 3 rfl rfl)) rfl ?_
        refine Ops.u (Dtu.lenS Try.underlying27 (Sl.up hL) (lk rfl)) rfl ?_
        refine Ops.u (Dtu.lss (lk rfl) (lk rfl)) rfl ?_
        refine Ops.nil ?_
        refine Then.next ?_
        refine Body.condP (lk rfl) (fun _ => ?_) (fun hn => absurd (by first | omega | assumption | decide) hn)
        refine Body.skip ?_
        refine Then.next ?_
        refine Body.seq ?_
        refine Body.block ?_
        refine Body.seq ?_
        refine Body.region ?_
        refine Ops.u (Dtu.fld fa29_2 (lk rfl)) rfl ?_
        refine Ops.d (Det.ld Try.isAgg27 (lk rfl) (Rd.ow 3 rfl rfl)) rfl ?_
        refine Ops.u (Dtu.mv (lk rfl)) rfl ?_
        refine Ops.u (Dtu.ix (i := (i)) Try.underlying27 Try.sizeOf49 (Sl.up hL) (lk rfl) (lk rfl) (by omega) (by omega)) rfl ?_
        refine Ops.d (Det.lda Try.isAgg49 Try.sizeOf49 (lk rfl) (Rds.sl (Sl.up hL) (gf (sz := 11) (fun _ => rfl) (by omega))) rfl) rfl ?_
        refine Ops.s (Stp.alloc ty49 (fun b13 => ?_)) rfl
        refine Ops.e (Stp.store 0 Try.sizeOf49 (lk rfl) (lk rfl) rfl rfl rfl rfl rfl rfl rfl ?_)
        refine Ops.nil ?_
        refine Then.next ?_
        refine Body.seq ?_
        refine Body.seq ?_
        refine Body.region ?_
        refine Ops.u (Dtu.mv (lk rfl)) rfl ?_
        refine Ops.u (Dtu.fld fa29_1 (lk rfl)) rfl ?_
        refine Ops.d (Det.ld Try.isAgg3 (lk rfl) (Rd.ow 4 rfl rfl)) rfl ?_
        refine Ops.u (Dtu.quo (lk rfl) (lk rfl) (by first | decide | omega) (by with_reducible assumption)) rfl ?_
        refine Ops.u (Dtu.mv (lk rfl)) rfl ?_
        refine Ops.u (Dtu.eql (lk rfl) (lk rfl)) rfl ?_
        refine Ops.u (Dtu.mv (lk rfl)) rfl ?_
        refine Ops.decP 32 rfl (fun _ => ?_) (fun hn => absurd (by first | omega | assumption | decide) hn)
        refine Ops.gu rfl rfl rfl (Dtu.mv (lk rfl)) rfl ?_
        refine Ops.gu rfl rfl rfl (Dtu.fld fa29_1 (lk rfl)) rfl ?_
        refine Ops.gd rfl rfl rfl (Det.ld Try.isAgg3 (lk rfl) (Rd.ow 4 rfl rfl)) rfl ?_
        refine Ops.gu rfl rfl rfl (Dtu.rem (lk rfl) (lk rfl) (by first | decide | omega) (by with_reducible assumption)) rfl ?_
        refine Ops.gu rfl rfl rfl (Dtu.mv (lk rfl)) rfl ?_
        refine Ops.gu rfl rfl rfl (Dtu.geq (lk rfl) (lk rfl)) rfl ?_
        refine Ops.u (Dtu.pickT (lk rfl) (lk rfl)) rfl ?_
        refine Ops.nil ?_
        refine Then.next ?_
        refine Body.condP (lk rfl) (fun _ => ?_) (fun hn => absurd (by first | omega | assumption | decide) hn)
        refine Body.seq ?_
        refine Body.region ?_
        refine Ops.d (Det.lda Try.isAgg49 Try.sizeOf49 (lk rfl) (Rds.ow (m := 11) 3 rfl rfl) rfl) rfl ?_
        refine Ops.e (Stp.store 0 Try.sizeOf49 (lk rfl) (lk rfl) rfl rfl rfl rfl rfl rfl rfl ?_)
        refine Ops.nil ?_
        refine Then.next ?_
        refine Body.seq ?_
        refine Body.draw mixed ?_
        refine AB.u 0 rfl (by decide +kernel) (Dtu.mv (lk rfl)) rfl ?_
        refine AB.u 1 rfl (by decide +kernel) (Dtu.geq (lk rfl) (lk rfl)) rfl ?_
        refine AB.u 2 rfl (by decide +kernel) (Dtu.mv (lk rfl)) rfl ?_
        refine AB.decP 43 rfl (fun _ => ?_) (fun hn => absurd (by first | omega | assumption | decide) hn)
        refine AB.gu 3 rfl (by decide +kernel) rfl rfl rfl (Dtu.mv (lk rfl)) rfl ?_
        refine AB.gu 4 rfl (by decide +kernel) rfl rfl rfl (Dtu.leq (lk rfl) (lk rfl)) rfl ?_
        refine AB.u 5 rfl (by decide +kernel) (Dtu.pickT (lk rfl) (lk rfl)) rfl ?_
        refine AB.u 6 rfl (by decide +kernel) (Dtu.mv (lk rfl)) rfl ?_
        refine AB.decP 47 rfl (fun _ => ?_) (fun hn => absurd (by first | omega | assumption | decide) hn)
        refine AB.gu 7 rfl (by decide +kernel) rfl rfl rfl (Dtu.mv (lk rfl)) rfl ?_
        refine AB.gu 8 rfl (by decide +kernel) rfl rfl rfl (Dtu.fld fa29_1 (lk rfl)) rfl ?_
        refine AB.gd 9 rfl (by decide +kernel) rfl rfl rfl rfl (Det.ld Try.isAgg3 (lk rfl) (Rd.ow 4 rfl rfl)) rfl ?_
        refine AB.gu 10 rfl (by decide +kernel) rfl rfl rfl (Dtu.rem (lk rfl) (lk rfl) (by first | decide | omega) (by with_reducible assumption)) rfl ?_
        refine AB.gu 11 rfl (by decide +kernel) rfl rfl rfl (Dtu.mv (lk rfl)) rfl ?_
        refine AB.gu 12 rfl (by decide +kernel) rfl rfl rfl (Dtu.add (lk rfl) (lk rfl) (by with_reducible assumption)) rfl ?_
        refine AB.gu 13 rfl (by decide +kernel) rfl rfl rfl (Dtu.mv (lk rfl)) rfl ?_
        refine AB.gu 14 rfl (by decide +kernel) rfl rfl rfl (Dtu.geq (lk rfl) (lk rfl)) rfl ?_
        refine AB.u 15 rfl (by decide +kernel) (Dtu.pickT (lk rfl) (lk rfl)) rfl ?_
        refine AB.u 16 rfl (by decide +kernel) (Dtu.mv (lk rfl)) rfl ?_
        refine AB.decP 57 rfl (fun _ => ?_) (fun hn => absurd (by first | omega | assumption | decide) hn)
        refine AB.gu 17 rfl (by decide +kernel) rfl rfl rfl (Dtu.mv (lk rfl)) rfl ?_
        refine AB.gu 18 rfl (by decide +kernel) rfl rfl rfl (Dtu.fld fa29_1 (lk rfl)) rfl ?_
        refine AB.gd 19 rfl (by decide +kernel) rfl rfl rfl rfl (Det.ld Try.isAgg3 (lk rfl) (Rd.ow 4 rfl rfl)) rfl ?_
        refine AB.gu 20 rfl (by decide +kernel) rfl rfl rfl (Dtu.rem (lk rfl) (lk rfl) (by first | decide | omega) (by with_reducible assumption)) rfl ?_
        refine AB.gu 21 rfl (by decide +kernel) rfl rfl rfl (Dtu.mv (lk rfl)) rfl ?_
        refine AB.gu 22 rfl (by decide +kernel) rfl rfl rfl (Dtu.add (lk rfl) (lk rfl) (by with_reducible assumption)) rfl ?_
        refine AB.gu 23 rfl (by decide +kernel) rfl rfl rfl (Dtu.fld fa29_1 (lk rfl)) rfl ?_
        refine AB.gd 24 rfl (by decide +kernel) rfl rfl rfl rfl (Det.ld Try.isAgg3 (lk rfl) (Rd.ow 4 rfl rfl)) rfl ?_
        refine AB.gu 25 rfl (by decide +kernel) rfl rfl rfl (Dtu.lss (lk rfl) (lk rfl)) rfl ?_
        refine AB.u 26 rfl (by decide +kernel) (Dtu.pickT (lk rfl) (lk rfl)) rfl ?_
        refine AB.done (by decide +kernel) ?_
        refine Then.next ?_
        refine Body.condP (lk rfl) (fun _ => ?_) (fun hn => absurd (by first | omega | assumption | decide) hn)
        refine Body.draw mixed ?_
        refine AB.d 0 rfl (by decide +kernel) rfl (Det.lda Try.isAgg29 Try.sizeOf29 (lk rfl) (Rds.ow (m := 3) 4 rfl rfl) rfl) rfl ?_
        refine AB.u 1 rfl (by decide +kernel) (Dtu.mv (lk rfl)) rfl ?_
        refine AB.u 2 rfl (by decide +kernel) (Dtu.mv (lk rfl)) rfl ?_
        refine AB.u 3 rfl (by decide +kernel) (Dtu.fld fa29_1 (lk rfl)) rfl ?_
        refine AB.d 4 rfl (by decide +kernel) rfl (Det.ld Try.isAgg3 (lk rfl) (Rd.ow 4 rfl rfl)) rfl ?_
        refine AB.u 5 rfl (by decide +kernel) (Dtu.rem (lk rfl) (lk rfl) (by first | decide | omega) (by with_reducible assumption)) rfl ?_
        refine AB.u 6 rfl (by decide +kernel) (Dtu.mv (lk rfl)) rfl ?_
        refine AB.u 7 rfl (by decide +kernel) (Dtu.add (lk rfl) (lk rfl) (by with_reducible assumption)) rfl ?_
        refine AB.s 8 rfl (by decide +kernel) (by decide +kernel) (Stp.inline _ _ Try.func19 rfl Try.ntmps19 rfl rfl rfl Try.call19 (lks rfl) ?_) rfl
        refine Body.seq ?_
        refine Body.region ?_
        refine Ops.s (Stp.box (lk rfl) rfl (fun b3 => ?_)) rfl
        refine Ops.s (Stp.alloc ty49 (fun b6 => ?_)) rfl
        refine Ops.nil ?_
        refine Then.next ?_
        refine Body.seq ?_
        refine Body.region ?_
        refine Ops.u (Dtu.fld fa29_2 (lk rfl)) rfl ?_
        refine Ops.d (Det.ld Try.isAgg27 (lk rfl) (Rd.ow 1 rfl rfl)) rfl ?_
        refine Ops.u (Dtu.mv (lk rfl)) rfl ?_
        refine Ops.u (Dtu.fld fa29_1 (lk rfl)) rfl ?_
        refine Ops.d (Det.ld Try.isAgg3 (lk rfl) (Rd.ow 1 rfl rfl)) rfl ?_
        refine Ops.u (Dtu.mul (lk rfl) (lk rfl) (w64 (by omega) (by omega))) rfl ?_
        refine Ops.u (Dtu.mv (lk rfl)) rfl ?_
        refine Ops.u (Dtu.add (lk rfl) (lk rfl) (w64 (by omega) (by omega))) rfl ?_
        refine Ops.u (Dtu.ix (i := (i0 * g.c + j)) Try.underlying27 Try.sizeOf49 (Sl.up hL) (lk rfl) (lk rfl) (by omega) (by omega)) rfl ?_
        refine Ops.d (Det.lda Try.isAgg49 Try.sizeOf49 (lk rfl) (Rds.sl (Sl.up hL) (gf (sz := 11) (fun _ => rfl) (by omega))) rfl) rfl ?_
        refine Ops.e (Stp.store 0 Try.sizeOf49 (lk rfl) (lk rfl) rfl rfl rfl rfl rfl rfl rfl ?_)
        refine Ops.nil ?_
        refine Then.next ?_
        refine Body.ret ?_
        refine RetK.r1 ⟨_, rfl, Loads.agg Try.isAgg49 Try.sizeOf49 (Rds.ow (m := 11) 0 rfl rfl) rfl⟩ ?_
        refine AB.conseq (pk [2, 2, 2, 2, 2] rfl) ?_
        refine AB.e 9 rfl (by decide +kernel) (by decide +kernel) (Stp.store 0 Try.sizeOf49 (lk rfl) (lk rfl) rfl rfl rfl rfl rfl rfl rfl ?_)
        refine AB.done (by decide +kernel) ?_
        refine Then.next ?_
        refine Body.region ?_
        refine Ops.u (Dtu.mv (lk rfl)) rfl ?_
        refine Ops.d (Det.lda Try.isAgg49 Try.sizeOf49 (lk rfl) (Rds.ow (m := 11) 0 rfl rfl) rfl) rfl ?_
        refine Ops.s (Stp.buildSliceO Try.underlying27 ty49 (by decide) (by decide) (lkp rfl) rfl rfl rfl (by decide) (fun v79 => ?_)) rfl
        refine Ops.s (Stp.append 2 Try.underlying27 ty49 rfl rfl (lk rfl) (lk rfl) (Sl.osl 0 rfl) (by first | rfl | exact all_map (fun _ => rfl) _ | exact all_flat (fun _ => rfl) _) (by omega) (by omega) (fun v80 => ?_)) rfl
        refine Ops.u (Dtu.asg (lk rfl)) rfl ?_
        refine Ops.nil ?_
        refine Blk.norm ?_
        refine Then.next ?_
        refine Body.region ?_
        refine Ops.u (Dtu.mv (lk rfl)) rfl ?_
        refine Ops.u (Dtu.add (lk rfl) (lk rfl) (w64 (by omega) (by omega))) rfl ?_
        refine Ops.u (Dtu.asg (lk rfl)) rfl ?_
        refine Ops.nil ?_
        refine Round.goK [2, 2, 2, 2] ⟨i + 1, v80⟩ rfl rfl rfl ⟨rfl, rfl, trivial⟩ rfl (by dsimp only; rw [hs]; rfl) (by dsimp only; omega) (by dsimp only; omega)
      · have hF : (g.sh i0 col n ⟨pt, fl, fg, bg⟩).f (i / g.c) (i % g.c) = ⟨pt, fl, fg, bg⟩ := by
          show (if _ then _ else _) = _
          rw [if_pos hA, if_neg hC]
        rw [hF] at hs
        refine Body.seq ?_
        refine Body.seq ?_
        refine Body.region ?_
        refine Ops.u (Dtu.mv (lk rfl)) rfl ?_
        refine Ops.u (Dtu.fld fa29_2 (lk rfl)) rfl ?_
        refine Ops.d (Det.ld Try.isAgg27 (lk rfl) (Rd.ow 3 rfl rfl)) rfl ?_
        refine Ops.u (Dtu.lenS Try.underlying27 (Sl.up hL) (lk rfl)) rfl ?_
        refine Ops.u (Dtu.lss (lk rfl) (lk rfl)) rfl ?_
        refine Ops.nil ?_
        refine Then.next ?_
        refine Body.condP (lk rfl) (fun _ => ?_) (fun hn => absurd (by first | omega | assumption | decide) hn)
        refine Body.skip ?_
        refine Then.next ?_
        refine Body.seq ?_
        refine Body.block ?_
        refine Body.seq ?_
        refine Body.region ?_
        refine Ops.u (Dtu.fld fa29_2 (lk rfl)) rfl ?_
        refine Ops.d (Det.ld Try.isAgg27 (lk rfl) (Rd.ow 3 rfl rfl)) rfl ?_
        refine Ops.u (Dtu.mv (lk rfl)) rfl ?_
        refine Ops.u (Dtu.ix (i := (i)) Try.underlying27 Try.sizeOf49 (Sl.up hL) (lk rfl) (lk rfl) (by omega) (by omega)) rfl ?_
        refine Ops.d (Det.lda Try.isAgg49 Try.sizeOf49 (lk rfl) (Rds.sl (Sl.up hL) (gf (sz := 11) (fun _ => rfl) (by omega))) rfl) rfl ?_
        refine Ops.s (Stp.alloc ty49 (fun b13 => ?_)) rfl
        refine Ops.e (Stp.store 0 Try.sizeOf49 (lk rfl) (lk rfl) rfl rfl rfl rfl rfl rfl rfl ?_)
        refine Ops.nil ?_
        refine Then.next ?_
        refine Body.seq ?_
        refine Body.seq ?_
        refine Body.region ?_
        refine Ops.u (Dtu.mv (lk rfl)) rfl ?_
        refine Ops.u (Dtu.fld fa29_1 (lk rfl)) rfl ?_
        refine Ops.d (Det.ld Try.isAgg3 (lk rfl) (Rd.ow 4 rfl rfl)) rfl ?_
        refine Ops.u (Dtu.quo (lk rfl) (lk rfl) (by first | decide | omega) (by with_reducible assumption)) rfl ?_
        refine Ops.u (Dtu.mv (lk rfl)) rfl ?_
        refine Ops.u (Dtu.eql (lk rfl) (lk rfl)) rfl ?_
        refine Ops.u (Dtu.mv (lk rfl)) rfl ?_
        refine Ops.decP 32 rfl (fun _ => ?_) (fun hn => absurd (by first | omega | assumption | decide) hn)
        refine Ops.gu rfl rfl rfl (Dtu.mv (lk rfl)) rfl ?_
        refine Ops.gu rfl rfl rfl (Dtu.fld fa29_1 (lk rfl)) rfl ?_
        refine Ops.gd rfl rfl rfl (Det.ld Try.isAgg3 (lk rfl) (Rd.ow 4 rfl rfl)) rfl ?_
        refine Ops.gu rfl rfl rfl (Dtu.rem (lk rfl) (lk rfl) (by first | decide | omega) (by with_reducible assumption)) rfl ?_
        refine Ops.gu rfl rfl rfl (Dtu.mv (lk rfl)) rfl ?_
        refine Ops.gu rfl rfl rfl (Dtu.geq (lk rfl) (lk rfl)) rfl ?_
        refine Ops.u (Dtu.pickT (lk rfl) (lk rfl)) rfl ?_
        refine Ops.nil ?_
        refine Then.next ?_
        refine Body.condP (lk rfl) (fun _ => ?_) (fun hn => absurd (by first | omega | assumption | decide) hn)
        refine Body.seq ?_
        refine Body.region ?_
        refine Ops.d (Det.lda Try.isAgg49 Try.sizeOf49 (lk rfl) (Rds.ow (m := 11) 3 rfl rfl) rfl) rfl ?_
        refine Ops.e (Stp.store 0 Try.sizeOf49 (lk rfl) (lk rfl) rfl rfl rfl rfl rfl rfl rfl ?_)
        refine Ops.nil ?_
        refine Then.next ?_
        refine Body.seq ?_
        refine Body.draw mixed ?_
        refine AB.u 0 rfl (by decide +kernel) (Dtu.mv (lk rfl)) rfl ?_
        refine AB.u 1 rfl (by decide +kernel) (Dtu.geq (lk rfl) (lk rfl)) rfl ?_
        refine AB.u 2 rfl (by decide +kernel) (Dtu.mv (lk rfl)) rfl ?_
        refine AB.decP 43 rfl (fun c43 => ?_) (fun c43 => ?_)
        · refine AB.gu 3 rfl (by decide +kernel) rfl rfl rfl (Dtu.mv (lk rfl)) rfl ?_
          refine AB.gu 4 rfl (by decide +kernel) rfl rfl rfl (Dtu.leq (lk rfl) (lk rfl)) rfl ?_
          refine AB.u 5 rfl (by decide +kernel) (Dtu.pickT (lk rfl) (lk rfl)) rfl ?_
          refine AB.u 6 rfl (by decide +kernel) (Dtu.mv (lk rfl)) rfl ?_
          refine AB.decP 47 rfl (fun c47 => ?_) (fun c47 => ?_)
          · refine AB.gu 7 rfl (by decide +kernel) rfl rfl rfl (Dtu.mv (lk rfl)) rfl ?_
            refine AB.gu 8 rfl (by decide +kernel) rfl rfl rfl (Dtu.fld fa29_1 (lk rfl)) rfl ?_
            refine AB.gd 9 rfl (by decide +kernel) rfl rfl rfl rfl (Det.ld Try.isAgg3 (lk rfl) (Rd.ow 4 rfl rfl)) rfl ?_
            refine AB.gu 10 rfl (by decide +kernel) rfl rfl rfl (Dtu.rem (lk rfl) (lk rfl) (by first | decide | omega) (by with_reducible assumption)) rfl ?_
            refine AB.gu 11 rfl (by decide +kernel) rfl rfl rfl (Dtu.mv (lk rfl)) rfl ?_
            refine AB.gu 12 rfl (by decide +kernel) rfl rfl rfl (Dtu.add (lk rfl) (lk rfl) (w64 (by omega) (by omega))) rfl ?_
            refine AB.gu 13 rfl (by decide +kernel) rfl rfl rfl (Dtu.mv (lk rfl)) rfl ?_
            refine AB.gu 14 rfl (by decide +kernel) rfl rfl rfl (Dtu.geq (lk rfl) (lk rfl)) rfl ?_
            refine AB.u 15 rfl (by decide +kernel) (Dtu.pickT (lk rfl) (lk rfl)) rfl ?_
            refine AB.u 16 rfl (by decide +kernel) (Dtu.mv (lk rfl)) rfl ?_
            refine AB.decP 57 rfl (fun c57 => ?_) (fun c57 => ?_)
            · refine AB.gu 17 rfl (by decide +kernel) rfl rfl rfl (Dtu.mv (lk rfl)) rfl ?_
              refine AB.gu 18 rfl (by decide +kernel) rfl rfl rfl (Dtu.fld fa29_1 (lk rfl)) rfl ?_
              refine AB.gd 19 rfl (by decide +kernel) rfl rfl rfl rfl (Det.ld Try.isAgg3 (lk rfl) (Rd.ow 4 rfl rfl)) rfl ?_
              refine AB.gu 20 rfl (by decide +kernel) rfl rfl rfl (Dtu.rem (lk rfl) (lk rfl) (by first | decide | omega) (by with_reducible assumption)) rfl ?_
              refine AB.gu 21 rfl (by decide +kernel) rfl rfl rfl (Dtu.mv (lk rfl)) rfl ?_
              refine AB.gu 22 rfl (by decide +kernel) rfl rfl rfl (Dtu.add (lk rfl) (lk rfl) (w64 (by omega) (by omega))) rfl ?_
              refine AB.gu 23 rfl (by decide +kernel) rfl rfl rfl (Dtu.fld fa29_1 (lk rfl)) rfl ?_
              refine AB.gd 24 rfl (by decide +kernel) rfl rfl rfl rfl (Det.ld Try.isAgg3 (lk rfl) (Rd.ow 4 rfl rfl)) rfl ?_
              refine AB.gu 25 rfl (by decide +kernel) rfl rfl rfl (Dtu.lss (lk rfl) (lk rfl)) rfl ?_
              refine AB.u 26 rfl (by decide +kernel) (Dtu.pickT (lk rfl) (lk rfl)) rfl ?_
              refine AB.done (by decide +kernel) ?_
              refine Then.next ?_
              refine Body.condP (lk rfl) (fun hy => absurd hy (by first | omega | assumption | decide)) (fun _ => ?_)
              refine Body.skip ?_
              refine Then.next ?_
              refine Body.region ?_
              refine Ops.u (Dtu.mv (lk rfl)) rfl ?_
              refine Ops.d (Det.lda Try.isAgg49 Try.sizeOf49 (lk rfl) (Rds.ow (m := 11) 0 rfl rfl) rfl) rfl ?_
              refine Ops.s (Stp.buildSliceO Try.underlying27 ty49 (by decide) (by decide) (lkp rfl) rfl rfl rfl (by decide) (fun v79 => ?_)) rfl
              refine Ops.s (Stp.append 2 Try.underlying27 ty49 rfl rfl (lk rfl) (lk rfl) (Sl.osl 0 rfl) (by first | rfl | exact all_map (fun _ => rfl) _ | exact all_flat (fun _ => rfl) _) (by omega) (by omega) (fun v80 => ?_)) rfl
              refine Ops.u (Dtu.asg (lk rfl)) rfl ?_
              refine Ops.nil ?_
              refine Blk.norm ?_
              refine Then.next ?_
              refine Body.region ?_
              refine Ops.u (Dtu.mv (lk rfl)) rfl ?_
              refine Ops.u (Dtu.add (lk rfl) (lk rfl) (w64 (by omega) (by omega))) rfl ?_
              refine Ops.u (Dtu.asg (lk rfl)) rfl ?_
              refine Ops.nil ?_
              refine Round.goK [2, 2, 2, 2] ⟨i + 1, v80⟩ rfl rfl rfl ⟨rfl, rfl, trivial⟩ rfl (by dsimp only; rw [hs]; rfl) (by dsimp only; omega) (by dsimp only; omega)
            · refine AB.gn 17 rfl (by decide +kernel) rfl rfl rfl rfl rfl ?_
              refine AB.gn 18 rfl (by decide +kernel) rfl rfl rfl rfl rfl ?_
              refine AB.gn 19 rfl (by decide +kernel) rfl rfl rfl rfl rfl ?_
              refine AB.gn 20 rfl (by decide +kernel) rfl rfl rfl rfl rfl ?_
              refine AB.gn 21 rfl (by decide +kernel) rfl rfl rfl rfl rfl ?_
              refine AB.gn 22 rfl (by decide +kernel) rfl rfl rfl rfl rfl ?_
              refine AB.gn 23 rfl (by decide +kernel) rfl rfl rfl rfl rfl ?_
              refine AB.gn 24 rfl (by decide +kernel) rfl rfl rfl rfl rfl ?_
              refine AB.gn 25 rfl (by decide +kernel) rfl rfl rfl rfl rfl ?_
              refine AB.u 26 rfl (by decide +kernel) (Dtu.pickF (lk rfl) (lk rfl)) rfl ?_
              refine AB.done (by decide +kernel) ?_
              refine Then.next ?_
              refine Body.condF (lk rfl) ?_
              refine Body.skip ?_
              refine Then.next ?_
              refine Body.region ?_
              refine Ops.u (Dtu.mv (lk rfl)) rfl ?_
              refine Ops.d (Det.lda Try.isAgg49 Try.sizeOf49 (lk rfl) (Rds.ow (m := 11) 0 rfl rfl) rfl) rfl ?_
              refine Ops.s (Stp.buildSliceO Try.underlying27 ty49 (by decide) (by decide) (lkp rfl) rfl rfl rfl (by decide) (fun v79 => ?_)) rfl
              refine Ops.s (Stp.append 2 Try.underlying27 ty49 rfl rfl (lk rfl) (lk rfl) (Sl.osl 0 rfl) (by first | rfl | exact all_map (fun _ => rfl) _ | exact all_flat (fun _ => rfl) _) (by omega) (by omega) (fun v80 => ?_)) rfl
              refine Ops.u (Dtu.asg (lk rfl)) rfl ?_
              refine Ops.nil ?_
              refine Blk.norm ?_
              refine Then.next ?_
              refine Body.region ?_
              refine Ops.u (Dtu.mv (lk rfl)) rfl ?_
              refine Ops.u (Dtu.add (lk rfl) (lk rfl) (w64 (by omega) (by omega))) rfl ?_
              refine Ops.u (Dtu.asg (lk rfl)) rfl ?_
              refine Ops.nil ?_
              refine Round.goK [2, 2, 2, 2] ⟨i + 1, v80⟩ rfl rfl rfl ⟨rfl, rfl, trivial⟩ rfl (by dsimp only; rw [hs]; rfl) (by dsimp only; omega) (by dsimp only; omega)
          · refine AB.gn 7 rfl (by decide +kernel) rfl rfl rfl rfl rfl ?_
            refine AB.gn 8 rfl (by decide +kernel) rfl rfl rfl rfl rfl ?_
            refine AB.gn 9 rfl (by decide +kernel) rfl rfl rfl rfl rfl ?_
            refine AB.gn 10 rfl (by decide +kernel) rfl rfl rfl rfl rfl ?_
            refine AB.gn 11 rfl (by decide +kernel) rfl rfl rfl rfl rfl ?_
            refine AB.gn 12 rfl (by decide +kernel) rfl rfl rfl rfl rfl ?_
            refine AB.gn 13 rfl (by decide +kernel) rfl rfl rfl rfl rfl ?_
            refine AB.gn 14 rfl (by decide +kernel) rfl rfl rfl rfl rfl ?_
            refine AB.u 15 rfl (by decide +kernel) (Dtu.pickF (lk rfl) (lk rfl)) rfl ?_
            refine AB.u 16 rfl (by decide +kernel) (Dtu.mv (lk rfl)) rfl ?_
            refine AB.gn 17 rfl (by decide +kernel) rfl rfl rfl rfl rfl ?_
            refine AB.gn 18 rfl (by decide +kernel) rfl rfl rfl rfl rfl ?_
            refine AB.gn 19 rfl (by decide +kernel) rfl rfl rfl rfl rfl ?_
            refine AB.gn 20 rfl (by decide +kernel) rfl rfl rfl rfl rfl ?_
            refine AB.gn 21 rfl (by decide +kernel) rfl rfl rfl rfl rfl ?_
            refine AB.gn 22 rfl (by decide +kernel) rfl rfl rfl rfl rfl ?_
            refine AB.gn 23 rfl (by decide +kernel) rfl rfl rfl rfl rfl ?_
            refine AB.gn 24 rfl (by decide +kernel) rfl rfl rfl rfl rfl ?_
            refine AB.gn 25 rfl (by decide +kernel) rfl rfl rfl rfl rfl ?_
            refine AB.u 26 rfl (by decide +kernel) (Dtu.pickF (lk rfl) (lk rfl)) rfl ?_
            refine AB.done (by decide +kernel) ?_
            refine Then.next ?_
            refine Body.condF (lk rfl) ?_
            refine Body.skip ?_
            refine Then.next ?_
            refine Body.region ?_
            refine Ops.u (Dtu.mv (lk rfl)) rfl ?_
            refine Ops.d (Det.lda Try.isAgg49 Try.sizeOf49 (lk rfl) (Rds.ow (m := 11) 0 rfl rfl) rfl) rfl ?_
            refine Ops.s (Stp.buildSliceO Try.underlying27 ty49 (by decide) (by decide) (lkp rfl) rfl rfl rfl (by decide) (fun v79 => ?_)) rfl
            refine Ops.s (Stp.append 2 Try.underlying27 ty49 rfl rfl (lk rfl) (lk rfl) (Sl.osl 0 rfl) (by first | rfl | exact all_map (fun _ => rfl) _ | exact all_flat (fun _ => rfl) _) (by omega) (by omega) (fun v80 => ?_)) rfl
            refine Ops.u (Dtu.asg (lk rfl)) rfl ?_
            refine Ops.nil ?_
            refine Blk.norm ?_
            refine Then.next ?_
            refine Body.region ?_
            refine Ops.u (Dtu.mv (lk rfl)) rfl ?_
            refine Ops.u (Dtu.add (lk rfl) (lk rfl) (w64 (by omega) (by omega))) rfl ?_
            refine Ops.u (Dtu.asg (lk rfl)) rfl ?_
            refine Ops.nil ?_
            refine Round.goK [2, 2, 2, 2] ⟨i + 1, v80⟩ rfl rfl rfl ⟨rfl, rfl, trivial⟩ rfl (by dsimp only; rw [hs]; rfl) (by dsimp only; omega) (by dsimp only; omega)
        · refine AB.gn 3 rfl (by decide +kernel) rfl rfl rfl rfl rfl ?_
          refine AB.gn 4 rfl (by decide +kernel) rfl rfl rfl rfl rfl ?_
          refine AB.u 5 rfl (by decide +kernel) (Dtu.pickF (lk rfl) (lk rfl)) rfl ?_
          refine AB.u 6 rfl (by decide +kernel) (Dtu.mv (lk rfl)) rfl ?_
          refine AB.gn 7 rfl (by decide +kernel) rfl rfl rfl rfl rfl ?_
          refine AB.gn 8 rfl (by decide +kernel) rfl rfl rfl rfl rfl ?_
          refine AB.gn 9 rfl (by decide +kernel) rfl rfl rfl rfl rfl ?_
          refine AB.gn 10 rfl (by decide +kernel) rfl rfl rfl rfl rfl ?_
          refine AB.gn 11 rfl (by decide +kernel) rfl rfl rfl rfl rfl ?_
          refine AB.gn 12 rfl (by decide +kernel) rfl rfl rfl rfl rfl ?_
          refine AB.gn 13 rfl (by decide +kernel) rfl rfl rfl rfl rfl ?_
          refine AB.gn 14 rfl (by decide +kernel) rfl rfl rfl rfl rfl ?_
          refine AB.u 15 rfl (by decide +kernel) (Dtu.pickF (lk rfl) (lk rfl)) rfl ?_
          refine AB.u 16 rfl (by decide +kernel) (Dtu.mv (lk rfl)) rfl ?_
          refine AB.gn 17 rfl (by decide +kernel) rfl rfl rfl rfl rfl ?_
          refine AB.gn 18 rfl (by decide +kernel) rfl rfl rfl rfl rfl ?_
          refine AB.gn 19 rfl (by decide +kernel) rfl rfl rfl rfl rfl ?_
          refine AB.gn 20 rfl (by decide +kernel) rfl rfl rfl rfl rfl ?_
          refine AB.gn 21 rfl (by decide +kernel) rfl rfl rfl rfl rfl ?_
          refine AB.gn 22 rfl (by decide +kernel) rfl rfl rfl rfl rfl ?_
          refine AB.gn 23 rfl (by decide +kernel) rfl rfl rfl rfl rfl ?_
          refine AB.gn 24 rfl (by decide +kernel) rfl rfl rfl rfl rfl ?_
          refine AB.gn 25 rfl (by decide +kernel) rfl rfl rfl rfl rfl ?_
          refine AB.u 26 rfl (by decide +kernel) (Dtu.pickF (lk rfl) (lk rfl)) rfl ?_
          refine AB.done (by decide +kernel) ?_
          refine Then.next ?_
          refine Body.condF (lk rfl) ?_
          refine Body.skip ?_
          refine Then.next ?_
          refine Body.region ?_
          refine Ops.u (Dtu.mv (lk rfl)) rfl ?_
          refine Ops.d (Det.lda Try.isAgg49 Try.sizeOf49 (lk rfl) (Rds.ow (m := 11) 0 rfl rfl) rfl) rfl ?_
          refine Ops.s (Stp.buildSliceO Try.underlying27 ty49 (by decide) (by decide) (lkp rfl) rfl rfl rfl (by decide) (fun v79 => ?_)) rfl
          refine Ops.s (Stp.append 2 Try.underlying27 ty49 rfl rfl (lk rfl) (lk rfl) (Sl.osl 0 rfl) (by first | rfl | exact all_map (fun _ => rfl) _ | exact all_flat (fun _ => rfl) _) (by omega) (by omega) (fun v80 => ?_)) rfl
          refine Ops.u (Dtu.asg (lk rfl)) rfl ?_
          refine Ops.nil ?_
          refine Blk.norm ?_
          refine Then.next ?_
          refine Body.region ?_
          refine Ops.u (Dtu.mv (lk rfl)) rfl ?_
          refine Ops.u (Dtu.add (lk rfl) (lk rfl) (w64 (by omega) (by omega))) rfl ?_
          refine Ops.u (Dtu.asg (lk rfl)) rfl ?_
          refine Ops.nil ?_
          refine Round.goK [2, 2, 2, 2] ⟨i + 1, v80⟩ rfl rfl rfl ⟨rfl, rfl, trivial⟩ rfl (by dsimp only; rw [hs]; rfl) (by dsimp only; omega) (by dsimp only; omega)
    · have hF : (g.sh i0 col n ⟨pt, fl, fg, bg⟩).f (i / g.c) (i % g.c) = g.flat[i]! := by
        rw [hx]
        show (if _ then _ else _) = _
        rw [if_neg hA]
      rw [hF] at hs
      refine Body.seq ?_
      refine Body.seq ?_
      refine Body.region ?_
      refine Ops.u (Dtu.mv (lk rfl)) rfl ?_
      refine Ops.u (Dtu.fld fa29_2 (lk rfl)) rfl ?_
      refine Ops.d (Det.ld Try.isAgg27 (lk rfl) (Rd.ow 3 rfl rfl)) rfl ?_
      refine Ops.u (Dtu.lenS Try.underlying27 (Sl.up hL) (lk rfl)) rfl ?_
      refine Ops.u (Dtu.lss (lk rfl) (lk rfl)) rfl ?_
      refine Ops.nil ?_
      refine Then.next ?_
      refine Body.condP (lk rfl) (fun _ => ?_) (fun hn => absurd (by first | omega | assumption | decide) hn)
      refine Body.skip ?_
      refine Then.next ?_
      refine Body.seq ?_
      refine Body.block ?_
      refine Body.seq ?_
      refine Body.region ?_
      refine Ops.u (Dtu.fld fa29_2 (lk rfl)) rfl ?_
      refine Ops.d (Det.ld Try.isAgg27 (lk rfl) (Rd.ow 3 rfl rfl)) rfl ?_
      refine Ops.u (Dtu.mv (lk rfl)) rfl ?_
      refine Ops.u (Dtu.ix (i := (i)) Try.underlying27 Try.sizeOf49 (Sl.up hL) (lk rfl) (lk rfl) (by omega) (by omega)) rfl ?_
      refine Ops.d (Det.lda Try.isAgg49 Try.sizeOf49 (lk rfl) (Rds.sl (Sl.up hL) (gf (sz := 11) (fun _ => rfl) (by omega))) rfl) rfl ?_
      refine Ops.s (Stp.alloc ty49 (fun b13 => ?_)) rfl
      refine Ops.e (Stp.store 0 Try.sizeOf49 (lk rfl) (lk rfl) rfl rfl rfl rfl rfl rfl rfl ?_)
      refine Ops.nil ?_
      refine Then.next ?_
      refine Body.seq ?_
      refine Body.seq ?_
      refine Body.region ?_
      refine Ops.u (Dtu.mv (lk rfl)) rfl ?_
      refine Ops.u (Dtu.fld fa29_1 (lk rfl)) rfl ?_
      refine Ops.d (Det.ld Try.isAgg3 (lk rfl) (Rd.ow 4 rfl rfl)) rfl ?_
      refine Ops.u (Dtu.quo (lk rfl) (lk rfl) (by first | decide | omega) (by with_reducible assumption)) rfl ?_
      refine Ops.u (Dtu.mv (lk rfl)) rfl ?_
      refine Ops.u (Dtu.eql (lk rfl) (lk rfl)) rfl ?_
      refine Ops.u (Dtu.mv (lk rfl)) rfl ?_
      refine Ops.decP 32 rfl (fun c32 => ?_) (fun c32 => ?_)
      · refine Ops.gu rfl rfl rfl (Dtu.mv (lk rfl)) rfl ?_
        refine Ops.gu rfl rfl rfl (Dtu.fld fa29_1 (lk rfl)) rfl ?_
        refine Ops.gd rfl rfl rfl (Det.ld Try.isAgg3 (lk rfl) (Rd.ow 4 rfl rfl)) rfl ?_
        refine Ops.gu rfl rfl rfl (Dtu.rem (lk rfl) (lk rfl) (by first | decide | omega) (by with_reducible assumption)) rfl ?_
        refine Ops.gu rfl rfl rfl (Dtu.mv (lk rfl)) rfl ?_
        refine Ops.gu rfl rfl rfl (Dtu.geq (lk rfl) (lk rfl)) rfl ?_
        refine Ops.u (Dtu.pickT (lk rfl) (lk rfl)) rfl ?_
        refine Ops.nil ?_
        refine Then.next ?_
        refine Body.condP (lk rfl) (fun hy => absurd hy (by first | omega | assumption | decide)) (fun _ => ?_)
        refine Body.skip ?_
        refine Then.next ?_
        refine Body.region ?_
        refine Ops.u (Dtu.mv (lk rfl)) rfl ?_
        refine Ops.d (Det.lda Try.isAgg49 Try.sizeOf49 (lk rfl) (Rds.ow (m := 11) 0 rfl rfl) rfl) rfl ?_
        refine Ops.s (Stp.buildSliceO Try.underlying27 ty49 (by decide) (by decide) (lkp rfl) rfl rfl rfl (by decide) (fun v79 => ?_)) rfl
        refine Ops.s (Stp.append 2 Try.underlying27 ty49 rfl rfl (lk rfl) (lk rfl) (Sl.osl 0 rfl) (by first | rfl | exact all_map (fun _ => rfl) _ | exact all_flat (fun _ => rfl) _) (by omega) (by omega) (fun v80 => ?_)) rfl
        refine Ops.u (Dtu.asg (lk rfl)) rfl ?_
        refine Ops.nil ?_
        refine Blk.norm ?_
        refine Then.next ?_
        refine Body.region ?_
        refine Ops.u (Dtu.mv (lk rfl)) rfl ?_
        refine Ops.u (Dtu.add (lk rfl) (lk rfl) (w64 (by omega) (by omega))) rfl ?_
        refine Ops.u (Dtu.asg (lk rfl)) rfl ?_
        refine Ops.nil ?_
        refine Round.goK [2, 2, 2, 2] ⟨i + 1, v80⟩ rfl rfl rfl ⟨rfl, rfl, trivial⟩ rfl (by dsimp only; rw [hs]; rfl) (by dsimp only; omega) (by dsimp only; omega)
      · refine Ops.gn rfl rfl rfl rfl rfl ?_
        refine Ops.gn rfl rfl rfl rfl rfl ?_
        refine Ops.gn rfl rfl rfl rfl rfl ?_
        refine Ops.gn rfl rfl rfl rfl rfl ?_
        refine Ops.gn rfl rfl rfl rfl rfl ?_
        refine Ops.gn rfl rfl rfl rfl rfl ?_
        refine Ops.u (Dtu.pickF (lk rfl) (lk rfl)) rfl ?_
        refine Ops.nil ?_
        refine Then.next ?_
        refine Body.condF (lk rfl) ?_
        refine Body.skip ?_
        refine Then.next ?_
        refine Body.region ?_
        refine Ops.u (Dtu.mv (lk rfl)) rfl ?_
        refine Ops.d (Det.lda Try.isAgg49 Try.sizeOf49 (lk rfl) (Rds.ow (m := 11) 0 rfl rfl) rfl) rfl ?_
        refine Ops.s (Stp.buildSliceO Try.underlying27 ty49 (by decide) (by decide) (lkp rfl) rfl rfl rfl (by decide) (fun v79 => ?_)) rfl
        refine Ops.s (Stp.append 2 Try.underlying27 ty49 rfl rfl (lk rfl) (lk rfl) (Sl.osl 0 rfl) (by first | rfl | exact all_map (fun _ => rfl) _ | exact all_flat (fun _ => rfl) _) (by omega) (by omega) (fun v80 => ?_)) rfl
        refine Ops.u (Dtu.asg (lk rfl)) rfl ?_
        refine Ops.nil ?_
        refine Blk.norm ?_
        refine Then.next ?_
        refine Body.region ?_
        refine Ops.u (Dtu.mv (lk rfl)) rfl ?_
        refine Ops.u (Dtu.add (lk rfl) (lk rfl) (w64 (by omega) (by omega))) rfl ?_
        refine Ops.u (Dtu.asg (lk rfl)) rfl ?_
        refine Ops.nil ?_
        refine Round.goK [2, 2, 2, 2] ⟨i + 1, v80⟩ rfl rfl rfl ⟨rfl, rfl, trivial⟩ rfl (by dsimp only; rw [hs]; rfl) (by dsimp only; omega) (by dsimp only; omega)
  · obtain rfl : i = g.r * g.c := by omega
    rw [he]
    refine Body.seq ?_
    refine Body.seq ?_
    refine Body.region ?_
    refine Ops.u (Dtu.mv (lk rfl)) rfl ?_
    refine Ops.u (Dtu.fld fa29_2 (lk rfl)) rfl ?_
    refine Ops.d (Det.ld Try.isAgg27 (lk rfl) (Rd.ow 3 rfl rfl)) rfl ?_
    refine Ops.u (Dtu.lenS Try.underlying27 (Sl.up hL) (lk rfl)) rfl ?_
    refine Ops.u (Dtu.lss (lk rfl) (lk rfl)) rfl ?_
    refine Ops.nil ?_
    refine Then.next ?_
    refine Body.condP (lk rfl) (fun hy => absurd hy (by first | omega | assumption | decide)) (fun _ => ?_)
    refine Body.exit ?_
    refine Then.exit ?_
    refine Round.exit ?_
    refine Blk.here ?_
    refine Then.next ?_
    refine Body.seq ?_
    refine Body.region ?_
    refine Ops.d (Det.lda Try.isAgg29 Try.sizeOf29 (lk rfl) (Rds.ow (m := 3) 3 rfl rfl) rfl) rfl ?_
    refine Ops.u (Dtu.mv (lk rfl)) rfl ?_
    refine Ops.s (Stp.inline _ _ Try.func109 rfl Try.ntmps109 rfl rfl rfl Try.call109 (lks rfl) ?_) rfl
    refine Body.seq ?_
    refine Body.region ?_
    refine Ops.s (Stp.box (lk rfl) rfl (fun b2 => ?_)) rfl
    refine Ops.s (Stp.alloc ty29 (fun b4 => ?_)) rfl
    refine Ops.nil ?_
    refine Then.next ?_
    refine Body.seq ?_
    refine Body.region ?_
    refine Ops.u (Dtu.fld fa29_0 (lk rfl)) rfl ?_
    refine Ops.d (Det.ld Try.isAgg3 (lk rfl) (Rd.ow 1 rfl rfl)) rfl ?_
    refine Ops.u (Dtu.fld fa29_1 (lk rfl)) rfl ?_
    refine Ops.d (Det.ld Try.isAgg3 (lk rfl) (Rd.ow 1 rfl rfl)) rfl ?_
    refine Ops.u (Dtu.mv (lk rfl)) rfl ?_
    refine Ops.pure (Sl.shape (Sl.osl 2 rfl)) fun hsll => ?_
    obtain ⟨la, lc, rfl⟩ := hsll
    refine Ops.u (Dtu.build ty29 pl29 (lkp rfl) rfl rfl) rfl ?_
    refine Ops.e (Stp.store 0 Try.sizeOf29 (lk rfl) (lk rfl) rfl rfl rfl rfl rfl rfl rfl ?_)
    refine Ops.nil ?_
    refine Then.next ?_
    refine Body.ret ?_
    refine RetK.r1 ⟨_, rfl, Loads.agg Try.isAgg29 Try.sizeOf29 (Rds.ow (m := 3) 0 rfl rfl) rfl⟩ ?_
    refine Ops.conseq (pk [2, 2, 2, 2] rfl) ?_
    refine Ops.e (Stp.store 1 Try.sizeOf29 (lk rfl) (lk rfl) rfl rfl rfl rfl rfl rfl rfl ?_)
    refine Ops.nil ?_
    refine Then.next ?_
    refine Body.ret ?_
    exact ⟨.inr rfl, _, Loads.agg Try.isAgg29 Try.sizeOf29 (Rds.ow (m := 3) 1 rfl rfl) rfl, _, pk [0] rfl, la, lc, rfl, rfl⟩
theorem rresize_no (E : Env) (g : Gd) (v : Value) (t u : Int) (xs : List Value) (hf : fitsG t u = false) (hs : IsSl v) : Does Try.prog 79 #[.agg #[.int .i64 g.r, .int .i64 g.c, v], .int .i64 t, .int .i64 u, .agg xs.toArray] E ([]) fun r H' => r = .tuple #[.agg #[.int .i64 g.r, .int .i64 g.c, v], .int .i64 1] ∧ H' = [] := by
  obtain ⟨va, vm, vc, rfl⟩ := hs
  refine Does.go _ _ Try.func79 rfl Try.ntmps79 rfl rfl ?_
  refine Body.seq ?_
  refine Body.region ?_
  refine Ops.s (Stp.box (lk rfl) rfl (fun b4 => ?_)) rfl
  refine Ops.s (Stp.box (lk rfl) rfl (fun b7 => ?_)) rfl
  refine Ops.s (Stp.alloc ty29 (fun b8 => ?_)) rfl
  refine Ops.u (Dtu.asg (lk rfl)) rfl ?_
  refine Ops.nil ?_
  refine Then.next ?_
  refine Body.seq ?_
  refine Body.region ?_
  refine Ops.u (Dtu.mv (lk rfl)) rfl ?_
  refine Ops.u (Dtu.mv (lk rfl)) rfl ?_
  refine Ops.s (Stp.call rfl Try.call13 (lks rfl) (fun E' le hat => rnew_no E' _ _ (by first | assumption | omega)) ?_) rfl
  rintro _ _ ⟨rfl, rfl⟩
  refine Ops.u (Dtu.mv (lk rfl)) rfl ?_
  refine Ops.u (Dtu.ext (lk rfl) rfl) rfl ?_
  refine Ops.u (Dtu.ext (lk rfl) rfl) rfl ?_
  refine Ops.s (Stp.alloc ty29 (fun b10 => ?_)) rfl
  refine Ops.e (Stp.store 0 Try.sizeOf29 (lk rfl) (lk rfl) rfl rfl rfl rfl rfl rfl rfl ?_)
  refine Ops.u (Dtu.asg (lk rfl)) rfl ?_
  refine Ops.nil ?_
  refine Then.next ?_
  refine Body.seq ?_
  refine Body.seq ?_
  refine Body.region ?_
  refine Ops.u (Dtu.mv (lk rfl)) rfl ?_
  refine Ops.u (Dtu.neq (lk rfl) (lk rfl)) rfl ?_
  refine Ops.nil ?_
  refine Then.next ?_
  refine Body.condP (lk rfl) (fun _ => ?_) (fun hn => absurd (by first | omega | assumption | decide) hn)
  refine Body.seq ?_
  refine Body.region ?_
  refine Ops.d (Det.lda Try.isAgg29 Try.sizeOf29 (lk rfl) (Rds.ow (m := 3) 3 rfl rfl) rfl) rfl ?_
  refine Ops.u (Dtu.mv (lk rfl)) rfl ?_
  refine Ops.e (Stp.store 1 Try.sizeOf29 (lk rfl) (lk rfl) rfl rfl rfl rfl rfl rfl rfl ?_)
  refine Ops.u (Dtu.asg (lk rfl)) rfl ?_
  refine Ops.nil ?_
  refine Then.next ?_
  refine Body.ret ?_
  refine Then.ret ?_
  exact ⟨.inr rfl, _, Loads.agg Try.isAgg29 Try.sizeOf29 (Rds.ow (m := 3) 1 rfl rfl) rfl, _, pk [] rfl, rfl, rfl⟩
def rsF (g : Gd) (c : Nat) (x : Cell) (j : Nat) : Cell := if j / c < g.r ∧ j % c < g.c then g.f (j / c) (j % c) else x
def rsL (g : Gd) (t u : Nat) (x : Cell) (i : Nat) : List Cell := (List.range (t * u)).map fun j => if j < i then rsF g u x j else Cell.blank
theorem rsL_len (g : Gd) (t u : Nat) (x : Cell) (i : Nat) : (rsL g t u x i).length = t * u := by simp [rsL]
theorem rsL_zero {g : Gd} {t u : Nat} {x : Cell} : List.replicate (t * u) Cell.blank = rsL g t u x 0 := by
  refine (List.eq_replicate_iff.2 ⟨rsL_len _ _ _ _ _, fun y hy => ?_⟩).symm
  obtain ⟨j, _, rfl⟩ := List.mem_map.1 hy; rfl
theorem rsL_full {g : Gd} {t u : Nat} {x : Cell} : rsL g t u x (t * u) = (List.range (t * u)).map (rsF g u x) :=
  List.map_congr_left fun j hj => if_pos (List.mem_range.1 hj)
theorem rsL_get (g : Gd) (t u : Nat) (x : Cell) (i j : Nat) : (rsL g t u x i)[j]? = if j < t * u then some (if j < i then rsF g u x j else Cell.blank) else none := by
  unfold rsL
  rw [List.getElem?_map]
  split
  · rename_i h; rw [List.getElem?_range h]; rfl
  · rename_i h; rw [List.getElem?_eq_none (by simp; omega)]; rfl
theorem rsL_set (g : Gd) (t u : Nat) (x : Cell) (i : Nat) (h : i < t * u) : (rsL g t u x i).set i (rsF g u x i) = rsL g t u x (i + 1) := by
  refine List.ext_getElem? fun j => ?_
  rw [List.getElem?_set, rsL_get, rsL_get, rsL_len]
  by_cases e : i = j
  · subst e; rw [if_pos rfl, if_pos h, if_pos h, if_pos (by omega)]
  · rw [if_neg e]
    by_cases hj : j < i
    · rw [if_pos hj, if_pos (show j < i + 1 by omega)]
    · rw [if_neg hj, if_neg (show ¬ j < i + 1 by omega)]
theorem rat_ok (E : Env) (g : Gd) (v : Value) (i k : Nat) (ok : g.Ok) (hi : i < g.r) (hk : k < g.c) (hL : Sl E [] 11 v (g.r * g.c) (g.flat.flatMap Cell.renc)) : Does Try.prog 19 #[.agg #[.int .i64 g.r, .int .i64 g.c, v], .int .i64 i, .int .i64 k] E ([]) fun r H' => r = .agg (g.flat[i * g.c + k]!).renc.toArray ∧ H' = [] := by
  have hb := ok.r
  have hc := ok.c
  have ha := area ok
  have hfl := flat_len' g
  have hlt := idx_lt hi hk
  refine Does.go _ _ Try.func19 rfl Try.ntmps19 rfl rfl ?_
  refine Body.seq ?_
  refine Body.region ?_
  refine Ops.s (Stp.box (lk rfl) rfl (fun b3 => ?_)) rfl
  refine Ops.s (Stp.alloc ty49 (fun b6 => ?_)) rfl
  refine Ops.nil ?_
  refine Then.next ?_
  refine Body.seq ?_
  refine Body.region ?_
  refine Ops.u (Dtu.fld fa29_2 (lk rfl)) rfl ?_
  refine Ops.d (Det.ld Try.isAgg27 (lk rfl) (Rd.ow 1 rfl rfl)) rfl ?_
  refine Ops.u (Dtu.mv (lk rfl)) rfl ?_
  refine Ops.u (Dtu.fld fa29_1 (lk rfl)) rfl ?_
  refine Ops.d (Det.ld Try.isAgg3 (lk rfl) (Rd.ow 1 rfl rfl)) rfl ?_
  refine Ops.u (Dtu.mul (lk rfl) (lk rfl) (w64 (by omega) (by omega))) rfl ?_
  refine Ops.u (Dtu.mv (lk rfl)) rfl ?_
  refine Ops.u (Dtu.add (lk rfl) (lk rfl) (w64 (by omega) (by omega))) rfl ?_
  refine Ops.u (Dtu.ix (i := (i * g.c + k)) Try.underlying27 Try.sizeOf49 (Sl.up hL) (lk rfl) (lk rfl) (by omega) (by omega)) rfl ?_
  refine Ops.d (Det.lda Try.isAgg49 Try.sizeOf49 (lk rfl) (Rds.sl (Sl.up hL) (gf (sz := 11) (fun _ => rfl) (by omega))) rfl) rfl ?_
  refine Ops.e (Stp.store 0 Try.sizeOf49 (lk rfl) (lk rfl) rfl rfl rfl rfl rfl rfl rfl ?_)
  refine Ops.nil ?_
  refine Then.next ?_
  refine Body.ret ?_
  exact ⟨.inr rfl, _, Loads.agg Try.isAgg49 Try.sizeOf49 (Rds.ow (m := 11) 0 rfl rfl) rfl, _, pk [] rfl, rfl, rfl⟩
theorem rresize_ok (E : Env) (g : Gd) (v : Value) (t u pt fl fg bg : Int) (ok : g.Ok) (hf : fitsG t u = true) (hL : Sl E [] 11 v (g.r * g.c) (g.flat.flatMap Cell.renc)) : Does Try.prog 79 #[.agg #[.int .i64 g.r, .int .i64 g.c, v], .int .i64 t, .int .i64 u, .agg (Cell.renc ⟨pt, fl, fg, bg⟩).toArray] E ([]) fun r H' => ∃ a c, r = .tuple #[.agg #[.int .i64 t, .int .i64 u, .slice a (t.toNat * u.toNat) c], .int .i64 0] ∧ H' = [osl 49 11 (.slice a (t.toNat * u.toNat) c) (t.toNat * u.toNat) ((g.rsz t u ⟨pt, fl, fg, bg⟩).flat.flatMap Cell.renc)] := by
  have hb := ok.r
  have hc := ok.c
  have ha := area ok
  have hfl := flat_len' g
  have hbt : 1 ≤ t ∧ t ≤ 12 ∧ 1 ≤ u ∧ u ≤ 40 := by simpa [fitsG] using hf
  have hG : (g.rsz t u ⟨pt, fl, fg, bg⟩).flat = (List.range (t.toNat * u.toNat)).map (rsF g u.toNat ⟨pt, fl, fg, bg⟩) := by rw [Gd.rsz, if_pos hf]; rfl
  rw [hG]
  obtain ⟨t, rfl⟩ := Int.eq_ofNat_of_zero_le (show 0 ≤ t by omega)
  obtain ⟨u, rfl⟩ := Int.eq_ofNat_of_zero_le (show 0 ≤ u by omega)
  have ha2 : t * u ≤ 480 := by have := Nat.mul_le_mul (show t ≤ 12 by omega) (show u ≤ 40 by omega); omega
  refine Does.go _ _ Try.func79 rfl Try.ntmps79 rfl rfl ?_
  refine Body.seq ?_
  refine Body.region ?_
  refine Ops.s (Stp.box (lk rfl) rfl (fun b4 => ?_)) rfl
  refine Ops.s (Stp.box (lk rfl) rfl (fun b7 => ?_)) rfl
  refine Ops.s (Stp.alloc ty29 (fun b8 => ?_)) rfl
  refine Ops.u (Dtu.asg (lk rfl)) rfl ?_
  refine Ops.nil ?_
  refine Then.next ?_
  refine Body.seq ?_
  refine Body.region ?_
  refine Ops.u (Dtu.mv (lk rfl)) rfl ?_
  refine Ops.u (Dtu.mv (lk rfl)) rfl ?_
  refine Ops.s (Stp.call rfl Try.call13 (lks rfl) (fun E' le hat => rnew_ok E' _ _ (by first | assumption | omega)) ?_) rfl
  rintro _ _ ⟨ra16, rc16, rfl, rfl⟩
  refine Ops.u (Dtu.mv (lk rfl)) rfl ?_
  refine Ops.u (Dtu.ext (lk rfl) rfl) rfl ?_
  refine Ops.u (Dtu.ext (lk rfl) rfl) rfl ?_
  refine Ops.s (Stp.alloc ty29 (fun b10 => ?_)) rfl
  refine Ops.e (Stp.store 0 Try.sizeOf29 (lk rfl) (lk rfl) rfl rfl rfl rfl rfl rfl rfl ?_)
  refine Ops.u (Dtu.asg (lk rfl)) rfl ?_
  refine Ops.nil ?_
  refine Then.next ?_
  refine Body.seq ?_
  refine Body.seq ?_
  refine Body.region ?_
  refine Ops.u (Dtu.mv (lk rfl)) rfl ?_
  refine Ops.u (Dtu.neq (lk rfl) (lk rfl)) rfl ?_
  refine Ops.nil ?_
  refine Then.next ?_
  refine Body.condP (lk rfl) (fun hy => absurd hy (by first | omega | assumption | decide)) (fun _ => ?_)
  refine Body.skip ?_
  refine Then.next ?_
  refine Body.seq ?_
  refine Body.seq ?_
  refine Body.region ?_
  refine Ops.u (Dtu.asg (lk rfl)) rfl ?_
  refine Ops.nil ?_
  refine Then.next ?_
  refine Body.block ?_
  have hs0 : List.replicate (((t : Nat) : Int).toNat * ((u : Nat) : Int).toNat) Cell.blank = rsL g t u ⟨pt, fl, fg, bg⟩ 0 := rsL_zero
  rw [hs0]
  refine Body.loopH (γ := Nat) rfl (fun i => [(12, .int .i64 i)]) (fun i => [(0, own b10 [.int .i64 t, .int .i64 u, .slice ra16 (t * u) rc16] 29), (1, osl 49 11 (.slice ra16 (t * u) rc16) (t * u) ((rsL g t u ⟨pt, fl, fg, bg⟩ i).flatMap Cell.renc))]) (fun i => i ≤ t * u) (fun i => t * u - i) (0) (Nat.zero_le _) ⟨rfl, trivial⟩ rfl ?_
  rintro i u0 hi
  by_cases hlt : i < t * u
  · have hq := wquo (c := u) (show i ≤ 480 by omega)
    have hr := remN i u
    have hd := div_lt' hlt
    have hm : i % u < u := Nat.mod_lt _ (by omega)
    have hll := rsL_len g t u ⟨pt, fl, fg, bg⟩ i
    have hn1 : (0 : Int) ≤ ((i / u : Nat) : Int) := Int.natCast_nonneg _
    have hn2 : (0 : Int) ≤ ((i % u : Nat) : Int) := Int.natCast_nonneg _
    have hss := rsL_set g t u ⟨pt, fl, fg, bg⟩ i hlt
    by_cases hA : i / u < g.r ∧ i % u < g.c
    · have hA1 := hA.1
      have hA2 := hA.2
      have hlt2 := idx_lt hA.1 hA.2
      have hF : rsF g u ⟨pt, fl, fg, bg⟩ i = g.flat[i / u * g.c + i % u]! := by rw [flat_rc hA.1 hA.2, rsF, if_pos hA]
      have hl2 : ((rsL g t u ⟨pt, fl, fg, bg⟩ i).set i ⟨pt, fl, fg, bg⟩).length = t * u := by rw [List.length_set, hll]
      refine Body.seq ?_
      refine Body.seq ?_
      refine Body.region ?_
      refine Ops.u (Dtu.mv (lk rfl)) rfl ?_
      refine Ops.u (Dtu.mv (lk rfl)) rfl ?_
      refine Ops.u (Dtu.mv (lk rfl)) rfl ?_
      refine Ops.u (Dtu.mul (lk rfl) (lk rfl) (w64 (by omega) (by omega))) rfl ?_
      refine Ops.u (Dtu.lss (lk rfl) (lk rfl)) rfl ?_
      refine Ops.nil ?_
      refine Then.next ?_
      refine Body.condP (lk rfl) (fun _ => ?_) (fun hn => absurd (by first | omega | assumption | decide) hn)
      refine Body.skip ?_
      refine Then.next ?_
      refine Body.seq ?_
      refine Body.block ?_
      refine Body.seq ?_
      refine Body.region ?_
      refine Ops.u (Dtu.fld fa29_2 (lk rfl)) rfl ?_
      refine Ops.d (Det.ld Try.isAgg27 (lk rfl) (Rd.ow 0 rfl rfl)) rfl ?_
      refine Ops.u (Dtu.mv (lk rfl)) rfl ?_
      refine Ops.d (Det.lda Try.isAgg49 Try.sizeOf49 (lk rfl) (Rds.ow (m := 11) 3 rfl rfl) rfl) rfl ?_
      refine Ops.u (Dtu.ix (i := (i)) Try.underlying27 Try.sizeOf49 (Sl.osl 1 rfl) (lk rfl) (lk rfl) (by omega) (by omega)) rfl ?_
      refine Ops.e (Stp.storeF 1 (en := Cell.renc) (y := _) (fun _ => rfl) Try.sizeOf49 rfl (lk rfl) (lk rfl) rfl (by omega) (by omega) rfl ?_)
      refine Ops.nil ?_
      refine Then.next ?_
      refine Body.seq ?_
      refine Body.draw mixed ?_
      refine AB.d 0 rfl (by decide +kernel) rfl (Det.lda Try.isAgg29 Try.sizeOf29 (lk rfl) (Rds.ow (m := 3) 4 rfl rfl) rfl) rfl ?_
      refine AB.u 1 rfl (by decide +kernel) (Dtu.mv (lk rfl)) rfl ?_
      refine AB.u 2 rfl (by decide +kernel) (Dtu.mv (lk rfl)) rfl ?_
      refine AB.u 3 rfl (by decide +kernel) (Dtu.quo (lk rfl) (lk rfl) (by first | decide | omega) (by with_reducible assumption)) rfl ?_
      refine AB.u 4 rfl (by decide +kernel) (Dtu.mv (lk rfl)) rfl ?_
      refine AB.u 5 rfl (by decide +kernel) (Dtu.mv (lk rfl)) rfl ?_
      refine AB.u 6 rfl (by decide +kernel) (Dtu.rem (lk rfl) (lk rfl) (by first | decide | omega) (by with_reducible assumption)) rfl ?_
      refine AB.s 7 rfl (by decide +kernel) (by decide +kernel) (Stp.inline _ _ Try.func17 rfl Try.ntmps17 rfl rfl rfl Try.call17 (lks rfl) ?_) rfl
      refine Body.seq ?_
      refine Body.region ?_
      refine Ops.s (Stp.box (lk rfl) rfl (fun b3 => ?_)) rfl
      refine Ops.u (Dtu.asg (lk rfl)) rfl ?_
      refine Ops.nil ?_
      refine Then.next ?_
      refine Body.seq ?_
      refine Body.region ?_
      refine Ops.u (Dtu.mv (lk rfl)) rfl ?_
      refine Ops.u (Dtu.geq (lk rfl) (lk rfl)) rfl ?_
      refine Ops.u (Dtu.mv (lk rfl)) rfl ?_
      refine Ops.decP 9 rfl (fun _ => ?_) (fun hn => absurd (by first | omega | assumption | decide) hn)
      refine Ops.gu rfl rfl rfl (Dtu.mv (lk rfl)) rfl ?_
      refine Ops.gu rfl rfl rfl (Dtu.fld fa29_0 (lk rfl)) rfl ?_
      refine Ops.gd rfl rfl rfl (Det.ld Try.isAgg3 (lk rfl) (Rd.ow 0 rfl rfl)) rfl ?_
      refine Ops.gu rfl rfl rfl (Dtu.lss (lk rfl) (lk rfl)) rfl ?_
      refine Ops.u (Dtu.pickT (lk rfl) (lk rfl)) rfl ?_
      refine Ops.u (Dtu.mv (lk rfl)) rfl ?_
      refine Ops.decP 15 rfl (fun _ => ?_) (fun hn => absurd (by first | omega | assumption | decide) hn)
      refine Ops.gu rfl rfl rfl (Dtu.mv (lk rfl)) rfl ?_
      refine Ops.gu rfl rfl rfl (Dtu.geq (lk rfl) (lk rfl)) rfl ?_
      refine Ops.u (Dtu.pickT (lk rfl) (lk rfl)) rfl ?_
      refine Ops.u (Dtu.mv (lk rfl)) rfl ?_
      refine Ops.decP 19 rfl (fun _ => ?_) (fun hn => absurd (by first | omega | assumption | decide) hn)
      refine Ops.gu rfl rfl rfl (Dtu.mv (lk rfl)) rfl ?_
      refine Ops.gu rfl rfl rfl (Dtu.fld fa29_1 (lk rfl)) rfl ?_
      refine Ops.gd rfl rfl rfl (Det.ld Try.isAgg3 (lk rfl) (Rd.ow 0 rfl rfl)) rfl ?_
      refine Ops.gu rfl rfl rfl (Dtu.lss (lk rfl) (lk rfl)) rfl ?_
      refine Ops.u (Dtu.pickT (lk rfl) (lk rfl)) rfl ?_
      refine Ops.u (Dtu.asg (lk rfl)) rfl ?_
      refine Ops.nil ?_
      refine Then.next ?_
      refine Body.ret ?_
      refine RetK.r1 rfl ?_
      refine AB.conseq (pk [1, 1, 1, 1, 1] rfl) ?_
      refine AB.done (by decide +kernel) ?_
      refine Then.next ?_
      refine Body.condP (lk rfl) (fun _ => ?_) (fun hn => absurd (by first | omega | assumption | decide) hn)
      refine Body.draw mixed ?_
      refine AB.u 0 rfl (by decide +kernel) (Dtu.fld fa29_2 (lk rfl)) rfl ?_
      refine AB.d 1 rfl (by decide +kernel) rfl (Det.ld Try.isAgg27 (lk rfl) (Rd.ow 0 rfl rfl)) rfl ?_
      refine AB.u 2 rfl (by decide +kernel) (Dtu.mv (lk rfl)) rfl ?_
      refine AB.d 3 rfl (by decide +kernel) rfl (Det.lda Try.isAgg29 Try.sizeOf29 (lk rfl) (Rds.ow (m := 3) 4 rfl rfl) rfl) rfl ?_
      refine AB.u 4 rfl (by decide +kernel) (Dtu.mv (lk rfl)) rfl ?_
      refine AB.u 5 rfl (by decide +kernel) (Dtu.mv (lk rfl)) rfl ?_
      refine AB.u 6 rfl (by decide +kernel) (Dtu.quo (lk rfl) (lk rfl) (by first | decide | omega) (by with_reducible assumption)) rfl ?_
      refine AB.u 7 rfl (by decide +kernel) (Dtu.mv (lk rfl)) rfl ?_
      refine AB.u 8 rfl (by decide +kernel) (Dtu.mv (lk rfl)) rfl ?_
      refine AB.u 9 rfl (by decide +kernel) (Dtu.rem (lk rfl) (lk rfl) (by first | decide | omega) (by with_reducible assumption)) rfl ?_
      refine AB.s 10 rfl (by decide +kernel) (by decide +kernel) (Stp.call rfl Try.call19 (lks rfl) (fun E' le hat => rat_ok E' _ _ _ _ (by assumption) (by omega) (by omega) (Sl.mono (by assumption) le)) ?_) rfl
      rintro _ _ ⟨rfl, rfl⟩
      refine AB.u 11 rfl (by decide +kernel) (Dtu.ix (i := (i)) Try.underlying27 Try.sizeOf49 (Sl.osl 1 rfl) (lk rfl) (lk rfl) (by omega) (by omega)) rfl ?_
      refine AB.e 12 rfl (by decide +kernel) (by decide +kernel) (Stp.storeF 1 (en := Cell.renc) (y := _) (fun _ => rfl) Try.sizeOf49 rfl (lk rfl) (lk rfl) rfl (by omega) (by omega) rfl ?_)
      refine AB.done (by decide +kernel) ?_
      refine Blk.norm ?_
      refine Then.next ?_
      refine Body.region ?_
      refine Ops.u (Dtu.mv (lk rfl)) rfl ?_
      refine Ops.u (Dtu.add (lk rfl) (lk rfl) (w64 (by omega) (by omega))) rfl ?_
      refine Ops.u (Dtu.asg (lk rfl)) rfl ?_
      refine Ops.nil ?_
      refine Round.goK [0, 0, 0, 0, 0] (i + 1) rfl rfl rfl ⟨rfl, trivial⟩ rfl (by (try dsimp only); rw [← hss, hF, List.set_set]; rfl) (by omega) (by omega)
    · have hF : rsF g u ⟨pt, fl, fg, bg⟩ i = ⟨pt, fl, fg, bg⟩ := by rw [rsF, if_neg hA]
      refine Body.seq ?_
      refine Body.seq ?_
      refine Body.region ?_
      refine Ops.u (Dtu.mv (lk rfl)) rfl ?_
      refine Ops.u (Dtu.mv (lk rfl)) rfl ?_
      refine Ops.u (Dtu.mv (lk rfl)) rfl ?_
      refine Ops.u (Dtu.mul (lk rfl) (lk rfl) (w64 (by omega) (by omega))) rfl ?_
      refine Ops.u (Dtu.lss (lk rfl) (lk rfl)) rfl ?_
      refine Ops.nil ?_
      refine Then.next ?_
      refine Body.condP (lk rfl) (fun _ => ?_) (fun hn => absurd (by first | omega | assumption | decide) hn)
      refine Body.skip ?_
      refine Then.next ?_
      refine Body.seq ?_
      refine Body.block ?_
      refine Body.seq ?_
      refine Body.region ?_
      refine Ops.u (Dtu.fld fa29_2 (lk rfl)) rfl ?_
      refine Ops.d (Det.ld Try.isAgg27 (lk rfl) (Rd.ow 0 rfl rfl)) rfl ?_
      refine Ops.u (Dtu.mv (lk rfl)) rfl ?_
      refine Ops.d (Det.lda Try.isAgg49 Try.sizeOf49 (lk rfl) (Rds.ow (m := 11) 3 rfl rfl) rfl) rfl ?_
      refine Ops.u (Dtu.ix (i := (i)) Try.underlying27 Try.sizeOf49 (Sl.osl 1 rfl) (lk rfl) (lk rfl) (by omega) (by omega)) rfl ?_
      refine Ops.e (Stp.storeF 1 (en := Cell.renc) (y := _) (fun _ => rfl) Try.sizeOf49 rfl (lk rfl) (lk rfl) rfl (by omega) (by omega) rfl ?_)
      refine Ops.nil ?_
      refine Then.next ?_
      refine Body.seq ?_
      refine Body.draw mixed ?_
      refine AB.d 0 rfl (by decide +kernel) rfl (Det.lda Try.isAgg29 Try.sizeOf29 (lk rfl) (Rds.ow (m := 3) 4 rfl rfl) rfl) rfl ?_
      refine AB.u 1 rfl (by decide +kernel) (Dtu.mv (lk rfl)) rfl ?_
      refine AB.u 2 rfl (by decide +kernel) (Dtu.mv (lk rfl)) rfl ?_
      refine AB.u 3 rfl (by decide +kernel) (Dtu.quo (lk rfl) (lk rfl) (by first | decide | omega) (by with_reducible assumption)) rfl ?_
      refine AB.u 4 rfl (by decide +kernel) (Dtu.mv (lk rfl)) rfl ?_
      refine AB.u 5 rfl (by decide +kernel) (Dtu.mv (lk rfl)) rfl ?_
      refine AB.u 6 rfl (by decide +kernel) (Dtu.rem (lk rfl) (lk rfl) (by first | decide | omega) (by with_reducible assumption)) rfl ?_
      refine AB.s 7 rfl (by decide +kernel) (by decide +kernel) (Stp.inline _ _ Try.func17 rfl Try.ntmps17 rfl rfl rfl Try.call17 (lks rfl) ?_) rfl
      refine Body.seq ?_
      refine Body.region ?_
      refine Ops.s (Stp.box (lk rfl) rfl (fun b3 => ?_)) rfl
      refine Ops.u (Dtu.asg (lk rfl)) rfl ?_
      refine Ops.nil ?_
      refine Then.next ?_
      refine Body.seq ?_
      refine Body.region ?_
      refine Ops.u (Dtu.mv (lk rfl)) rfl ?_
      refine Ops.u (Dtu.geq (lk rfl) (lk rfl)) rfl ?_
      refine Ops.u (Dtu.mv (lk rfl)) rfl ?_
      refine Ops.decP 9 rfl (fun _ => ?_) (fun hn => absurd (by first | omega | assumption | decide) hn)
      refine Ops.gu rfl rfl rfl (Dtu.mv (lk rfl)) rfl ?_
      refine Ops.gu rfl rfl rfl (Dtu.fld fa29_0 (lk rfl)) rfl ?_
      refine Ops.gd rfl rfl rfl (Det.ld Try.isAgg3 (lk rfl) (Rd.ow 0 rfl rfl)) rfl ?_
      refine Ops.gu rfl rfl rfl (Dtu.lss (lk rfl) (lk rfl)) rfl ?_
      refine Ops.u (Dtu.pickT (lk rfl) (lk rfl)) rfl ?_
      refine Ops.u (Dtu.mv (lk rfl)) rfl ?_
      refine Ops.decP 15 rfl (fun c15 => ?_) (fun c15 => ?_)
      · refine Ops.gu rfl rfl rfl (Dtu.mv (lk rfl)) rfl ?_
        refine Ops.gu rfl rfl rfl (Dtu.geq (lk rfl) (lk rfl)) rfl ?_
        refine Ops.u (Dtu.pickT (lk rfl) (lk rfl)) rfl ?_
        refine Ops.u (Dtu.mv (lk rfl)) rfl ?_
        refine Ops.decP 19 rfl (fun _ => ?_) (fun hn => absurd (by first | omega | assumption | decide) hn)
        refine Ops.gu rfl rfl rfl (Dtu.mv (lk rfl)) rfl ?_
        refine Ops.gu rfl rfl rfl (Dtu.fld fa29_1 (lk rfl)) rfl ?_
        refine Ops.gd rfl rfl rfl (Det.ld Try.isAgg3 (lk rfl) (Rd.ow 0 rfl rfl)) rfl ?_
        refine Ops.gu rfl rfl rfl (Dtu.lss (lk rfl) (lk rfl)) rfl ?_
        refine Ops.u (Dtu.pickT (lk rfl) (lk rfl)) rfl ?_
        refine Ops.u (Dtu.asg (lk rfl)) rfl ?_
        refine Ops.nil ?_
        refine Then.next ?_
        refine Body.ret ?_
        refine RetK.r1 rfl ?_
        refine AB.conseq (pk [1, 1, 1, 1, 1] rfl) ?_
        refine AB.done (by decide +kernel) ?_
        refine Then.next ?_
        refine Body.condP (lk rfl) (fun hy => absurd hy (by first | omega | assumption | decide)) (fun _ => ?_)
        refine Body.skip ?_
        refine Blk.norm ?_
        refine Then.next ?_
        refine Body.region ?_
        refine Ops.u (Dtu.mv (lk rfl)) rfl ?_
        refine Ops.u (Dtu.add (lk rfl) (lk rfl) (w64 (by omega) (by omega))) rfl ?_
        refine Ops.u (Dtu.asg (lk rfl)) rfl ?_
        refine Ops.nil ?_
        refine Round.goK [0, 0, 0, 0, 0] (i + 1) rfl rfl rfl ⟨rfl, trivial⟩ rfl (by (try dsimp only); rw [← hss, hF]; rfl) (by omega) (by omega)
      · refine Ops.gn rfl rfl rfl rfl rfl ?_
        refine Ops.gn rfl rfl rfl rfl rfl ?_
        refine Ops.u (Dtu.pickF (lk rfl) (lk rfl)) rfl ?_
        refine Ops.u (Dtu.mv (lk rfl)) rfl ?_
        refine Ops.gn rfl rfl rfl rfl rfl ?_
        refine Ops.gn rfl rfl rfl rfl rfl ?_
        refine Ops.gn rfl rfl rfl rfl rfl ?_
        refine Ops.gn rfl rfl rfl rfl rfl ?_
        refine Ops.u (Dtu.pickF (lk rfl) (lk rfl)) rfl ?_
        refine Ops.u (Dtu.asg (lk rfl)) rfl ?_
        refine Ops.nil ?_
        refine Then.next ?_
        refine Body.ret ?_
        refine RetK.r1 rfl ?_
        refine AB.conseq (pk [1, 1, 1, 1, 1] rfl) ?_
        refine AB.done (by decide +kernel) ?_
        refine Then.next ?_
        refine Body.condF (lk rfl) ?_
        refine Body.skip ?_
        refine Blk.norm ?_
        refine Then.next ?_
        refine Body.region ?_
        refine Ops.u (Dtu.mv (lk rfl)) rfl ?_
        refine Ops.u (Dtu.add (lk rfl) (lk rfl) (w64 (by omega) (by omega))) rfl ?_
        refine Ops.u (Dtu.asg (lk rfl)) rfl ?_
        refine Ops.nil ?_
        refine Round.goK [0, 0, 0, 0, 0] (i + 1) rfl rfl rfl ⟨rfl, trivial⟩ rfl (by (try dsimp only); rw [← hss, hF]; rfl) (by omega) (by omega)
  · obtain rfl : i = t * u := by omega
    have he : rsL g t u ⟨pt, fl, fg, bg⟩ (t * u) = (List.range (((t : Nat) : Int).toNat * ((u : Nat) : Int).toNat)).map (rsF g ((u : Nat) : Int).toNat ⟨pt, fl, fg, bg⟩) := rsL_full
    rw [← he]
    refine Body.seq ?_
    refine Body.seq ?_
    refine Body.region ?_
    refine Ops.u (Dtu.mv (lk rfl)) rfl ?_
    refine Ops.u (Dtu.mv (lk rfl)) rfl ?_
    refine Ops.u (Dtu.mv (lk rfl)) rfl ?_
    refine Ops.u (Dtu.mul (lk rfl) (lk rfl) (w64 (by omega) (by omega))) rfl ?_
    refine Ops.u (Dtu.lss (lk rfl) (lk rfl)) rfl ?_
    refine Ops.nil ?_
    refine Then.next ?_
    refine Body.condP (lk rfl) (fun hy => absurd hy (by first | omega | assumption | decide)) (fun _ => ?_)
    refine Body.exit ?_
    refine Then.exit ?_
    refine Round.exit ?_
    refine Blk.here ?_
    refine Then.next ?_
    refine Body.seq ?_
    refine Body.region ?_
    refine Ops.d (Det.lda Try.isAgg29 Try.sizeOf29 (lk rfl) (Rds.ow (m := 3) 0 rfl rfl) rfl) rfl ?_
    refine Ops.u (Dtu.mv (lk rfl)) rfl ?_
    refine Ops.e (Stp.store 2 Try.sizeOf29 (lk rfl) (lk rfl) rfl rfl rfl rfl rfl rfl rfl ?_)
    refine Ops.u (Dtu.asg (lk rfl)) rfl ?_
    refine Ops.nil ?_
    refine Then.next ?_
    refine Body.ret ?_
    exact ⟨.inr rfl, _, Loads.agg Try.isAgg29 Try.sizeOf29 (Rds.ow (m := 3) 2 rfl rfl) rfl, _, pk [1] rfl, ra16, rc16, rfl, rfl⟩
end Go.Proofs.Ytpmapedhigjalaa
end
section
/- The document's grids: which are the same. -/
namespace Go.Proofs.Ytpmapedhigjalaa
set_option maxRecDepth 100000
set_option linter.unusedVariables false
set_option linter.unusedSimpArgs false
open Go.Sx

def Cell.Fl (c : Cell) : Prop := 0 ≤ c.fl ∧ c.fl < 256
/-- an array's items, each equal -/
def IE (P : Program) (d e c : Nat) (xs ys : List Value) (is : List Nat) (b : Bool) : Prop := ∀ w, (Op.eqItems d e c xs.toArray ys.toArray is).run P w = .ok b w
theorem IE.nil {P : Program} {d e c : Nat} {xs ys : List Value} : IE P d e c xs ys [] true := fun w => by simp [Op.eqItems]
theorem IE.cons {P : Program} {d e c i : Nat} {xs ys : List Value} {is : List Nat} {a b : Value} {r q : Bool} (ha : ∀ w, (part e xs.toArray (i * c)).run P w = .ok a w) (hb : ∀ w, (part e ys.toArray (i * c)).run P w = .ok b w) (he : EqD P d e a b r) (hr : IE P d e c xs ys is q) : IE P d e c xs ys (i :: is) (r && q) := fun w => by
  simp only [Op.eqItems, Sem.run_bind, ha, hb, he w, Result.andThen_ok]
  cases r
  · simp
  · simpa using hr w
theorem EqD.array {P : Program} {d : Nat} {T e : TypeId} {n c : Nat} {i : TypeInfo} {xs ys : List Value} {b : Bool} (hu : P.underlying T = some (.array n e)) (hi : P.info? e = some i) (hc : P.cellsOf e = c) (h : IE P d e c xs ys (List.range n) b) : EqD P (d + 1) T (.agg xs.toArray) (.agg ys.toArray) b := fun w => by
  rw [run_equalIn_array w d _ _ hu hi, hc]
  exact h w
abbrev bits (fl : Int) : List Value := [.bool (bit8 fl 0), .bool (bit8 fl 1), .bool (bit8 fl 2), .bool (bit8 fl 3), .bool (bit8 fl 4), .bool (bit8 fl 5), .bool (bit8 fl 6), .bool (bit8 fl 7)]
def bitsEq (x y : Int) : Bool := (bit8 x 0 == bit8 y 0) && ((bit8 x 1 == bit8 y 1) && ((bit8 x 2 == bit8 y 2) && ((bit8 x 3 == bit8 y 3) && ((bit8 x 4 == bit8 y 4) && ((bit8 x 5 == bit8 y 5) && ((bit8 x 6 == bit8 y 6) && ((bit8 x 7 == bit8 y 7) && true)))))))
theorem eqBits (d : Nat) (x y : Int) : EqD Try.prog (d + 2) 45 (.agg (bits x).toArray) (.agg (bits y).toArray) (bitsEq x y) :=
  EqD.array Try.underlying45 (by kernel_rfl : Try.prog.info? 4 = some Try.t4) (by kernel_rfl : Try.prog.cellsOf 4 = 1)
    (.cons (part_v Try.isAgg4 rfl) (part_v Try.isAgg4 rfl) (EqD.bool Try.underlying4) (.cons (part_v Try.isAgg4 rfl) (part_v Try.isAgg4 rfl) (EqD.bool Try.underlying4)
      (.cons (part_v Try.isAgg4 rfl) (part_v Try.isAgg4 rfl) (EqD.bool Try.underlying4) (.cons (part_v Try.isAgg4 rfl) (part_v Try.isAgg4 rfl) (EqD.bool Try.underlying4)
        (.cons (part_v Try.isAgg4 rfl) (part_v Try.isAgg4 rfl) (EqD.bool Try.underlying4) (.cons (part_v Try.isAgg4 rfl) (part_v Try.isAgg4 rfl) (EqD.bool Try.underlying4)
          (.cons (part_v Try.isAgg4 rfl) (part_v Try.isAgg4 rfl) (EqD.bool Try.underlying4) (.cons (part_v Try.isAgg4 rfl) (part_v Try.isAgg4 rfl) (EqD.bool Try.underlying4) .nil))))))))
def byB (b : Nat → Bool) : Int := (if b 0 then 1 else 0) + (if b 1 then 2 else 0) + (if b 2 then 4 else 0) + (if b 3 then 8 else 0) + (if b 4 then 16 else 0) + (if b 5 then 32 else 0) + (if b 6 then 64 else 0) + (if b 7 then 128 else 0)
theorem byB_bit8 : ∀ c : Fin 256, byB (bit8 (c.val : Int)) = (c.val : Int) := by decide +kernel
theorem bitsEq_iff {x y : Int} (hx : 0 ≤ x ∧ x < 256) (hy : 0 ≤ y ∧ y < 256) : bitsEq x y = true ↔ x = y := by
  constructor
  · intro h
    simp only [bitsEq, Bool.and_true, Bool.and_eq_true, beq_iff_eq] at h
    obtain ⟨h0, h1, h2, h3, h4, h5, h6, h7⟩ := h
    obtain ⟨m, rfl⟩ := Int.eq_ofNat_of_zero_le hx.1
    obtain ⟨n, rfl⟩ := Int.eq_ofNat_of_zero_le hy.1
    have e1 : byB (bit8 (m : Int)) = (m : Int) := byB_bit8 ⟨m, by omega⟩
    have e2 : byB (bit8 (n : Int)) = (n : Int) := byB_bit8 ⟨n, by omega⟩
    rw [← e1, ← e2]
    unfold byB
    rw [h0, h1, h2, h3, h4, h5, h6, h7]
  · rintro rfl
    simp [bitsEq]
def rEq (a b : Cell) : Bool := (a.pt == b.pt) && ((bitsEq a.fl b.fl && ((a.fg == b.fg) && ((a.bg == b.bg) && true))) && true)
theorem eq49 (a b : Cell) : EqAgg Try.prog 49 a.renc b.renc (rEq a b) :=
  EqAgg.mk fun k => EqD.struct Try.underlying49 (by kernel_rfl) (FE.cons rfl (part_v Try.isAgg21 rfl) (part_v Try.isAgg21 rfl) (EqD.int Try.underlying21)
      (FE.cons rfl (part_a Try.isAgg47 Try.sizeOf47 rfl) (part_a Try.isAgg47 Try.sizeOf47 rfl)
        (EqD.struct Try.underlying47 (by kernel_rfl) (FE.cons rfl (part_a Try.isAgg45 Try.sizeOf45 rfl) (part_a Try.isAgg45 Try.sizeOf45 rfl) (eqBits _ _ _)
          (FE.cons rfl (part_v Try.isAgg35 rfl) (part_v Try.isAgg35 rfl) (EqD.int Try.underlying35) (FE.cons rfl (part_v Try.isAgg35 rfl) (part_v Try.isAgg35 rfl) (EqD.int Try.underlying35) FE.nil)))) FE.nil))
theorem eqGuard49 : Try.prog.eqGuardType Try.prog.depth 49 = false := by kernel_rfl
theorem rEq_iff {a b : Cell} (ha : a.Fl) (hb : b.Fl) : rEq a b = true ↔ a = b := by
  cases a; cases b
  simp only [rEq, Bool.and_true, Bool.and_eq_true, beq_iff_eq, bitsEq_iff ha hb, Cell.mk.injEq]
theorem rEq_self (a : Cell) : rEq a a = true := by simp [rEq, bitsEq]
def rSame (a b : Gd) : Bool := decide (a.r = b.r ∧ a.c = b.c) && (List.range (a.r * a.c)).all fun j => rEq a.flat[j]! b.flat[j]!
theorem rSame_all {a b : Gd} (h1 : a.r = b.r) (h2 : a.c = b.c) (h : ∀ j, j < a.r * a.c → rEq a.flat[j]! b.flat[j]! = true) : rSame a b = true := by
  simp only [rSame, Bool.and_eq_true, decide_eq_true_eq, List.all_eq_true, List.mem_range]
  exact ⟨⟨h1, h2⟩, h⟩
theorem rSame_not {a b : Gd} {j : Nat} (hj : j < a.r * a.c) (h : rEq a.flat[j]! b.flat[j]! = false) : rSame a b = false := by
  rw [Bool.eq_false_iff]
  intro h'
  simp only [rSame, Bool.and_eq_true, decide_eq_true_eq, List.all_eq_true, List.mem_range] at h'
  rw [h'.2 j hj] at h; cases h
theorem rSame_rc {a b : Gd} (h : ¬ (a.r = b.r ∧ a.c = b.c)) : rSame a b = false := by
  simp only [rSame, h, decide_false, Bool.false_and]
theorem rsame_ok (E : Env) (a b : Gd) (v u : Value) (oka : a.Ok) (okb : b.Ok) (hv : Sl E [] 11 v (a.r * a.c) (a.flat.flatMap Cell.renc)) (hu : Sl E [] 11 u (b.r * b.c) (b.flat.flatMap Cell.renc)) : Does Try.prog 20 #[.agg #[.int .i64 a.r, .int .i64 a.c, v], .agg #[.int .i64 b.r, .int .i64 b.c, u]] E ([]) fun r H' => r = .bool (rSame a b) ∧ H' = [] := by
  have ha := oka.r
  have hc := oka.c
  have hb := okb.r
  have hd := okb.c
  have a1 := area oka
  have a2 := area okb
  have f1 := flat_len' a
  have f2 := flat_len' b
  by_cases hrc : a.r = b.r ∧ a.c = b.c
  · have hr1 := hrc.1
    have hr2 := hrc.2
    have hrr : a.r * a.c = b.r * b.c := by rw [hr1, hr2]
    refine Does.go _ _ Try.func20 rfl Try.ntmps20 rfl rfl ?_
    refine Body.seq ?_
    refine Body.region ?_
    refine Ops.s (Stp.box (lk rfl) rfl (fun b2 => ?_)) rfl
    refine Ops.s (Stp.box (lk rfl) rfl (fun b3 => ?_)) rfl
    refine Ops.u (Dtu.asg (lk rfl)) rfl ?_
    refine Ops.nil ?_
    refine Then.next ?_
    refine Body.seq ?_
    refine Body.seq ?_
    refine Body.region ?_
    refine Ops.u (Dtu.fld fa29_0 (lk rfl)) rfl ?_
    refine Ops.d (Det.ld Try.isAgg3 (lk rfl) (Rd.ow 1 rfl rfl)) rfl ?_
    refine Ops.u (Dtu.fld fa29_0 (lk rfl)) rfl ?_
    refine Ops.d (Det.ld Try.isAgg3 (lk rfl) (Rd.ow 0 rfl rfl)) rfl ?_
    refine Ops.u (Dtu.neq (lk rfl) (lk rfl)) rfl ?_
    refine Ops.u (Dtu.mv (lk rfl)) rfl ?_
    refine Ops.decP 11 rfl (fun hy => absurd hy (by first | omega | assumption | decide)) (fun _ => ?_)
    refine Ops.gu rfl rfl rfl (Dtu.fld fa29_1 (lk rfl)) rfl ?_
    refine Ops.gd rfl rfl rfl (Det.ld Try.isAgg3 (lk rfl) (Rd.ow 1 rfl rfl)) rfl ?_
    refine Ops.gu rfl rfl rfl (Dtu.fld fa29_1 (lk rfl)) rfl ?_
    refine Ops.gd rfl rfl rfl (Det.ld Try.isAgg3 (lk rfl) (Rd.ow 0 rfl rfl)) rfl ?_
    refine Ops.gu rfl rfl rfl (Dtu.neq (lk rfl) (lk rfl)) rfl ?_
    refine Ops.u (Dtu.pickF (lk rfl) (lk rfl)) rfl ?_
    refine Ops.u (Dtu.mv (lk rfl)) rfl ?_
    refine Ops.decP 18 rfl (fun hy => absurd hy (by first | omega | assumption | decide)) (fun _ => ?_)
    refine Ops.gu rfl rfl rfl (Dtu.fld fa29_2 (lk rfl)) rfl ?_
    refine Ops.gd rfl rfl rfl (Det.ld Try.isAgg27 (lk rfl) (Rd.ow 1 rfl rfl)) rfl ?_
    refine Ops.gu rfl rfl rfl (Dtu.lenS Try.underlying27 (Sl.up hv) (lk rfl)) rfl ?_
    refine Ops.gu rfl rfl rfl (Dtu.fld fa29_2 (lk rfl)) rfl ?_
    refine Ops.gd rfl rfl rfl (Det.ld Try.isAgg27 (lk rfl) (Rd.ow 0 rfl rfl)) rfl ?_
    refine Ops.gu rfl rfl rfl (Dtu.lenS Try.underlying27 (Sl.up hu) (lk rfl)) rfl ?_
    refine Ops.gu rfl rfl rfl (Dtu.neq (lk rfl) (lk rfl)) rfl ?_
    refine Ops.u (Dtu.pickF (lk rfl) (lk rfl)) rfl ?_
    refine Ops.nil ?_
    refine Then.next ?_
    refine Body.condP (lk rfl) (fun hy => absurd hy (by first | omega | assumption | decide)) (fun _ => ?_)
    refine Body.skip ?_
    refine Then.next ?_
    refine Body.seq ?_
    refine Body.seq ?_
    refine Body.region ?_
    refine Ops.u (Dtu.asg (lk rfl)) rfl ?_
    refine Ops.nil ?_
    refine Then.next ?_
    refine Body.block ?_
    refine Body.loopH (γ := Nat) rfl (fun i => [(5, .int .i64 i)]) (fun i => []) (fun i => i ≤ a.r * a.c ∧ ∀ j, j < i → rEq a.flat[j]! b.flat[j]! = true) (fun i => a.r * a.c - i) (0) (⟨Nat.zero_le _, fun j hj => by omega⟩) ⟨rfl, trivial⟩ rfl ?_
    rintro i u0 ⟨hi, hj⟩
    by_cases hlt : i < a.r * a.c
    · have hz : rEq a.flat[i]! b.flat[i]! = true → ∀ j, j < i + 1 → rEq a.flat[j]! b.flat[j]! = true := fun h j hjj => by
        rcases Nat.lt_or_ge j i with h1 | h1
        · exact hj j h1
        · rw [show j = i by omega]; exact h
      refine Body.seq ?_
      refine Body.seq ?_
      refine Body.region ?_
      refine Ops.u (Dtu.mv (lk rfl)) rfl ?_
      refine Ops.u (Dtu.fld fa29_2 (lk rfl)) rfl ?_
      refine Ops.d (Det.ld Try.isAgg27 (lk rfl) (Rd.ow 1 rfl rfl)) rfl ?_
      refine Ops.u (Dtu.lenS Try.underlying27 (Sl.up hv) (lk rfl)) rfl ?_
      refine Ops.u (Dtu.lss (lk rfl) (lk rfl)) rfl ?_
      refine Ops.nil ?_
      refine Then.next ?_
      refine Body.condP (lk rfl) (fun _ => ?_) (fun hn => absurd (by first | omega | assumption | decide) hn)
      refine Body.skip ?_
      refine Then.next ?_
      refine Body.seq ?_
      refine Body.block ?_
      refine Body.seq ?_
      refine Body.draw mixed ?_
      refine AB.u 0 rfl (by decide +kernel) (Dtu.fld fa29_2 (lk rfl)) rfl ?_
      refine AB.d 1 rfl (by decide +kernel) rfl (Det.ld Try.isAgg27 (lk rfl) (Rd.ow 1 rfl rfl)) rfl ?_
      refine AB.u 2 rfl (by decide +kernel) (Dtu.mv (lk rfl)) rfl ?_
      refine AB.u 3 rfl (by decide +kernel) (Dtu.ix (i := (i)) Try.underlying27 Try.sizeOf49 (Sl.up hv) (lk rfl) (lk rfl) (by omega) (by omega)) rfl ?_
      refine AB.d 4 rfl (by decide +kernel) rfl (Det.lda Try.isAgg49 Try.sizeOf49 (lk rfl) (Rds.sl (Sl.up hv) (gf (sz := 11) (fun _ => rfl) (by omega))) rfl) rfl ?_
      refine AB.u 5 rfl (by decide +kernel) (Dtu.fld fa29_2 (lk rfl)) rfl ?_
      refine AB.d 6 rfl (by decide +kernel) rfl (Det.ld Try.isAgg27 (lk rfl) (Rd.ow 0 rfl rfl)) rfl ?_
      refine AB.u 7 rfl (by decide +kernel) (Dtu.mv (lk rfl)) rfl ?_
      refine AB.u 8 rfl (by decide +kernel) (Dtu.ix (i := (i)) Try.underlying27 Try.sizeOf49 (Sl.up hu) (lk rfl) (lk rfl) (by omega) (by omega)) rfl ?_
      refine AB.d 9 rfl (by decide +kernel) rfl (Det.lda Try.isAgg49 Try.sizeOf49 (lk rfl) (Rds.sl (Sl.up hu) (gf (sz := 11) (fun _ => rfl) (by omega))) rfl) rfl ?_
      refine AB.u 10 rfl (by decide +kernel) (Dtu.neS eqGuard49 (eq49 _ _) (lk rfl) (lk rfl)) rfl ?_
      refine AB.done (by decide +kernel) ?_
      refine Then.next ?_
      refine Body.cond (lk rfl) (fun c44 => ?_) (fun c44 => ?_)
      · have hs := rSame_not (a := a) (b := b) hlt (by simpa using c44)
        refine Body.seq ?_
        refine Body.region ?_
        refine Ops.u (Dtu.asg (lk rfl)) rfl ?_
        refine Ops.nil ?_
        refine Then.next ?_
        refine Body.ret ?_
        refine Blk.ret ?_
        refine Then.ret ?_
        refine Round.ret ?_
        refine Blk.ret ?_
        refine Then.ret ?_
        exact ⟨.inr rfl, _, pk [] rfl, by rw [hs]; rfl, rfl⟩
      · refine Body.skip ?_
        refine Blk.norm ?_
        refine Then.next ?_
        refine Body.region ?_
        refine Ops.u (Dtu.mv (lk rfl)) rfl ?_
        refine Ops.u (Dtu.add (lk rfl) (lk rfl) (w64 (by omega) (by omega))) rfl ?_
        refine Ops.u (Dtu.asg (lk rfl)) rfl ?_
        refine Ops.nil ?_
        have hw := hz (by simpa using c44)
        refine Round.goK [0, 0] (i + 1) rfl rfl rfl ⟨rfl, trivial⟩ rfl rfl ⟨by omega, hw⟩ (by omega)
    · have hs := rSame_all hr1 hr2 fun j hjj => hj j (by omega)
      refine Body.seq ?_
      refine Body.seq ?_
      refine Body.region ?_
      refine Ops.u (Dtu.mv (lk rfl)) rfl ?_
      refine Ops.u (Dtu.fld fa29_2 (lk rfl)) rfl ?_
      refine Ops.d (Det.ld Try.isAgg27 (lk rfl) (Rd.ow 1 rfl rfl)) rfl ?_
      refine Ops.u (Dtu.lenS Try.underlying27 (Sl.up hv) (lk rfl)) rfl ?_
      refine Ops.u (Dtu.lss (lk rfl) (lk rfl)) rfl ?_
      refine Ops.nil ?_
      refine Then.next ?_
      refine Body.condP (lk rfl) (fun hy => absurd hy (by first | omega | assumption | decide)) (fun _ => ?_)
      refine Body.exit ?_
      refine Then.exit ?_
      refine Round.exit ?_
      refine Blk.here ?_
      refine Then.next ?_
      refine Body.seq ?_
      refine Body.region ?_
      refine Ops.u (Dtu.asg (lk rfl)) rfl ?_
      refine Ops.nil ?_
      refine Then.next ?_
      refine Body.ret ?_
      exact ⟨.inr rfl, _, pk [] rfl, by rw [hs]; rfl, rfl⟩
  · rw [rSame_rc hrc]
    refine Does.go _ _ Try.func20 rfl Try.ntmps20 rfl rfl ?_
    refine Body.seq ?_
    refine Body.region ?_
    refine Ops.s (Stp.box (lk rfl) rfl (fun b2 => ?_)) rfl
    refine Ops.s (Stp.box (lk rfl) rfl (fun b3 => ?_)) rfl
    refine Ops.u (Dtu.asg (lk rfl)) rfl ?_
    refine Ops.nil ?_
    refine Then.next ?_
    refine Body.seq ?_
    refine Body.seq ?_
    refine Body.region ?_
    refine Ops.u (Dtu.fld fa29_0 (lk rfl)) rfl ?_
    refine Ops.d (Det.ld Try.isAgg3 (lk rfl) (Rd.ow 1 rfl rfl)) rfl ?_
    refine Ops.u (Dtu.fld fa29_0 (lk rfl)) rfl ?_
    refine Ops.d (Det.ld Try.isAgg3 (lk rfl) (Rd.ow 0 rfl rfl)) rfl ?_
    refine Ops.u (Dtu.neq (lk rfl) (lk rfl)) rfl ?_
    refine Ops.u (Dtu.mv (lk rfl)) rfl ?_
    refine Ops.decP 11 rfl (fun c11 => ?_) (fun c11 => ?_)
    · refine Ops.gn rfl rfl rfl rfl rfl ?_
      refine Ops.gn rfl rfl rfl rfl rfl ?_
      refine Ops.gn rfl rfl rfl rfl rfl ?_
      refine Ops.gn rfl rfl rfl rfl rfl ?_
      refine Ops.gn rfl rfl rfl rfl rfl ?_
      refine Ops.u (Dtu.pickT (lk rfl) (lk rfl)) rfl ?_
      refine Ops.u (Dtu.mv (lk rfl)) rfl ?_
      refine Ops.gn rfl rfl rfl rfl rfl ?_
      refine Ops.gn rfl rfl rfl rfl rfl ?_
      refine Ops.gn rfl rfl rfl rfl rfl ?_
      refine Ops.gn rfl rfl rfl rfl rfl ?_
      refine Ops.gn rfl rfl rfl rfl rfl ?_
      refine Ops.gn rfl rfl rfl rfl rfl ?_
      refine Ops.gn rfl rfl rfl rfl rfl ?_
      refine Ops.u (Dtu.pickT (lk rfl) (lk rfl)) rfl ?_
      refine Ops.nil ?_
      refine Then.next ?_
      refine Body.condT (lk rfl) ?_
      refine Body.seq ?_
      refine Body.region ?_
      refine Ops.u (Dtu.asg (lk rfl)) rfl ?_
      refine Ops.nil ?_
      refine Then.next ?_
      refine Body.ret ?_
      refine Then.ret ?_
      exact ⟨.inr rfl, _, pk [] rfl, rfl, rfl⟩
    · refine Ops.gu rfl rfl rfl (Dtu.fld fa29_1 (lk rfl)) rfl ?_
      refine Ops.gd rfl rfl rfl (Det.ld Try.isAgg3 (lk rfl) (Rd.ow 1 rfl rfl)) rfl ?_
      refine Ops.gu rfl rfl rfl (Dtu.fld fa29_1 (lk rfl)) rfl ?_
      refine Ops.gd rfl rfl rfl (Det.ld Try.isAgg3 (lk rfl) (Rd.ow 0 rfl rfl)) rfl ?_
      refine Ops.gu rfl rfl rfl (Dtu.neq (lk rfl) (lk rfl)) rfl ?_
      refine Ops.u (Dtu.pickF (lk rfl) (lk rfl)) rfl ?_
      refine Ops.u (Dtu.mv (lk rfl)) rfl ?_
      refine Ops.decP 18 rfl (fun _ => ?_) (fun hn => absurd (by first | omega | assumption | decide) hn)
      refine Ops.gn rfl rfl rfl rfl rfl ?_
      refine Ops.gn rfl rfl rfl rfl rfl ?_
      refine Ops.gn rfl rfl rfl rfl rfl ?_
      refine Ops.gn rfl rfl rfl rfl rfl ?_
      refine Ops.gn rfl rfl rfl rfl rfl ?_
      refine Ops.gn rfl rfl rfl rfl rfl ?_
      refine Ops.gn rfl rfl rfl rfl rfl ?_
      refine Ops.u (Dtu.pickT (lk rfl) (lk rfl)) rfl ?_
      refine Ops.nil ?_
      refine Then.next ?_
      refine Body.condT (lk rfl) ?_
      refine Body.seq ?_
      refine Body.region ?_
      refine Ops.u (Dtu.asg (lk rfl)) rfl ?_
      refine Ops.nil ?_
      refine Then.next ?_
      refine Body.ret ?_
      refine Then.ret ?_
      exact ⟨.inr rfl, _, pk [] rfl, rfl, rfl⟩
end Go.Proofs.Ytpmapedhigjalaa
end
section
/- A grid as one thing: New, Line, Copy, Same; As. -/
namespace Go.Proofs.Ytpmapedhigjalaa
set_option maxRecDepth 100000
set_option linter.unusedVariables false
set_option linter.unusedSimpArgs false
open Go.Sx

def Gd.new (rows cols : Int) : Gd := ⟨rows.toNat, cols.toNat, fun _ _ => Cell.blank⟩
theorem Gd.new_ok {rows cols : Int} (hf : fitsG rows cols = true) : (Gd.new rows cols).Ok := by
  have hb : 1 ≤ rows ∧ rows ≤ 12 ∧ 1 ≤ cols ∧ cols ≤ 40 := by simpa [fitsG] using hf
  exact ⟨by dsimp only [Gd.new]; omega, by dsimp only [Gd.new]; omega⟩
theorem new_g (E : Env) (rows cols : Int) (hf : fitsG rows cols = true) : Does Try.prog 12 #[.int .i64 rows, .int .i64 cols] E ([]) fun r H' => ∃ b, r = .tuple #[.pointer (some ⟨b, 0, none⟩), .int .i64 0] ∧ H' = [gridP b (Gd.new rows cols)] := by
  have hb : 1 ≤ rows ∧ rows ≤ 12 ∧ 1 ≤ cols ∧ cols ≤ 40 := by simpa [fitsG] using hf
  refine Does.post (gnew_ok E rows cols hf) ?_
  rintro r H' ⟨b, a, c, rs, hrs, rfl, rfl⟩
  refine ⟨_, fun w s => ?_, b, rfl, rfl⟩
  exact gridP_in (g := Gd.new rows cols) (a := a) (c := c) (rs := rs) (Gd.new_ok hf) (by rw [hrs, rep_tab]; rfl) (by rw [show (((Gd.new rows cols).c : Nat) : Int) = cols by dsimp only [Gd.new]; omega]; simpa using s)
theorem line_g (E : Env) (b : Nat) (g : Gd) (row : Int) (h : g.has row 0) : Does Try.prog 28 #[.pointer (some ⟨b, 0, none⟩), .int .i64 row] E ([gridP b g]) fun r H' => ∃ z1 z3, r = .tuple #[.slice z1 g.c z3, .int .i64 0] ∧ H' = [gridP b g, osl 39 4 (.slice z1 g.c z3) g.c ((tabR g.c (g.f row.toNat)).flatMap Cell.enc)] := by
  have h' := h
  obtain ⟨h1, h2, h3, h4⟩ := h
  obtain ⟨i, rfl⟩ := Int.eq_ofNat_of_zero_le h1
  refine Does.grid fun ok a c rs hr hf hl => ?_
  refine Does.post (gline_ok E b g.c a rs.length c rs hf i (by rw [hasE_g ok hl, erI_pos h'])) ?_
  rintro r H' ⟨z1, z3, rfl, rfl⟩
  refine ⟨_, fun w s => ?_, z1, z3, ?_, rfl⟩
  · rw [row_cs hr (by omega), tabR_len] at s
    exact gridP_in ok hr s
  · rw [row_cs hr (by omega), tabR_len]
theorem copy_g (E : Env) (b : Nat) (g : Gd) : Does Try.prog 34 #[.pointer (some ⟨b, 0, none⟩)] E ([gridP b g]) fun r H' => ∃ b2, r = .pointer (some ⟨b2, 0, none⟩) ∧ H' = [gridP b g, gridP b2 g] := by
  refine Does.grid fun ok a c rs hr hf hl => ?_
  refine Does.post (gcopy_ok E b g.c a rs.length c rs hf) ?_
  rintro r H' ⟨b2, a2, c2, rs2, hr2, rfl, rfl⟩
  refine ⟨[gridP b g, gridP b2 g], fun w s => ?_, b2, rfl, rfl⟩
  have s1 := gridP_in (H := gridA b2 g.c a2 rs2.length c2 rs2) ok hr s
  have s2 : St E (gridA b2 g.c a2 rs2.length c2 rs2 ++ [gridP b g]) w := s1.perm (by simp [gridA]; exact (List.perm_append_comm (l₁ := [gridP b g]) (l₂ := [_, _, _])))
  have s3 := gridP_in (H := [gridP b g]) ok (hr2.trans hr) s2
  exact s3.perm (List.Perm.swap _ _ _)
end Go.Proofs.Ytpmapedhigjalaa
end
section
/- A grid as one thing: Same; As. -/
namespace Go.Proofs.Ytpmapedhigjalaa
set_option maxRecDepth 100000
set_option linter.unusedVariables false
set_option linter.unusedSimpArgs false
open Go.Sx

def Gd.same (g o : Gd) : Bool := decide (g.c = o.c ∧ g.css = o.css)
theorem gsame_ok (E : Env) (b b2 : Nat) (c1 c2 : Nat) (a a2 : Option Addr) (m m2 k k2 : Nat) (rs ss : List Row) (hm : 0 < rs.length) (hm2 : 0 < ss.length) : Does Try.prog 35 #[.pointer (some ⟨b, 0, none⟩), .pointer (some ⟨b2, 0, none⟩)] E (gridA b c1 a rs.length k rs ++ gridA b2 c2 a2 ss.length k2 ss) fun r H' => r = .bool (decide (c1 = c2 ∧ rs.map Row.cs = ss.map Row.cs)) ∧ H' = gridA b c1 a rs.length k rs ++ gridA b2 c2 a2 ss.length k2 ss := by
  refine Does.go _ _ Try.func35 rfl Try.ntmps35 rfl rfl ?_
  refine Body.seq ?_
  refine Body.region ?_
  refine Ops.u (Dtu.asg (lk rfl)) rfl ?_
  refine Ops.nil ?_
  refine Then.next ?_
  refine Body.seq ?_
  refine Body.draw mixed ?_
  refine AB.u 0 rfl (by decide +kernel) (Dtu.mv (lk rfl)) rfl ?_
  refine AB.s 1 rfl (by decide +kernel) (by decide +kernel) (Stp.callOwn [0] rfl rfl Try.call85 (lks rfl) (fun E' le hat => gmade_ok E' _ _ _ _ _) ?_) rfl
  rintro _ _ ⟨rfl, rfl⟩
  refine AB.u 2 rfl (by decide +kernel) (Dtu.mv (lk rfl)) rfl ?_
  refine AB.decP 7 rfl (fun _ => ?_) (fun hn => absurd (by first | omega | assumption | decide) hn)
  refine AB.gu 3 rfl (by decide +kernel) rfl rfl rfl (Dtu.mv (lk rfl)) rfl ?_
  refine AB.gs 4 rfl (by decide +kernel) (by decide +kernel) rfl rfl rfl (Stp.callOwn [3] rfl rfl Try.call85 (lks rfl) (fun E' le hat => gmade_ok E' _ _ _ _ _) ?_) rfl
  rintro _ _ ⟨rfl, rfl⟩
  refine AB.u 5 rfl (by decide +kernel) (Dtu.pickT (lk rfl) (lk rfl)) rfl ?_
  refine AB.u 6 rfl (by decide +kernel) (Dtu.mv (lk rfl)) rfl ?_
  refine AB.decP 11 rfl (fun _ => ?_) (fun hn => absurd (by first | omega | assumption | decide) hn)
  refine AB.gu 7 rfl (by decide +kernel) rfl rfl rfl (Dtu.mv (lk rfl)) rfl ?_
  refine AB.gu 8 rfl (by decide +kernel) rfl rfl rfl (Dtu.nilck (lk rfl)) rfl ?_
  refine AB.gu 9 rfl (by decide +kernel) rfl rfl rfl (Dtu.fld fa61_0 (lk rfl)) rfl ?_
  refine AB.gd 10 rfl (by decide +kernel) rfl rfl rfl rfl (Det.ld Try.isAgg3 (lk rfl) (Rd.ow 1 rfl rfl)) rfl ?_
  refine AB.gu 11 rfl (by decide +kernel) rfl rfl rfl (Dtu.mv (lk rfl)) rfl ?_
  refine AB.gu 12 rfl (by decide +kernel) rfl rfl rfl (Dtu.nilck (lk rfl)) rfl ?_
  refine AB.gu 13 rfl (by decide +kernel) rfl rfl rfl (Dtu.fld fa61_0 (lk rfl)) rfl ?_
  refine AB.gd 14 rfl (by decide +kernel) rfl rfl rfl rfl (Det.ld Try.isAgg3 (lk rfl) (Rd.ow 0 rfl rfl)) rfl ?_
  refine AB.gu 15 rfl (by decide +kernel) rfl rfl rfl (Dtu.eql (lk rfl) (lk rfl)) rfl ?_
  refine AB.u 16 rfl (by decide +kernel) (Dtu.pickT (lk rfl) (lk rfl)) rfl ?_
  refine AB.u 17 rfl (by decide +kernel) (Dtu.mv (lk rfl)) rfl ?_
  refine AB.decP 22 rfl (fun c22 => ?_) (fun c22 => ?_)
  · refine AB.gu 18 rfl (by decide +kernel) rfl rfl rfl (Dtu.mv (lk rfl)) rfl ?_
    refine AB.gu 19 rfl (by decide +kernel) rfl rfl rfl (Dtu.nilck (lk rfl)) rfl ?_
    refine AB.gu 20 rfl (by decide +kernel) rfl rfl rfl (Dtu.fld fa61_1 (lk rfl)) rfl ?_
    refine AB.gd 21 rfl (by decide +kernel) rfl rfl rfl rfl (Det.ld Try.isAgg59 (lk rfl) (Rd.ow 1 rfl rfl)) rfl ?_
    refine AB.gu 22 rfl (by decide +kernel) rfl rfl rfl (Dtu.mv (lk rfl)) rfl ?_
    refine AB.gu 23 rfl (by decide +kernel) rfl rfl rfl (Dtu.nilck (lk rfl)) rfl ?_
    refine AB.gu 24 rfl (by decide +kernel) rfl rfl rfl (Dtu.fld fa61_1 (lk rfl)) rfl ?_
    refine AB.gd 25 rfl (by decide +kernel) rfl rfl rfl rfl (Det.ld Try.isAgg59 (lk rfl) (Rd.ow 0 rfl rfl)) rfl ?_
    refine AB.gs 26 rfl (by decide +kernel) (by decide +kernel) rfl rfl rfl (Stp.call rfl Try.call86 (lks rfl) (fun E' le hat => eqf_ok E' _ _ _ _ (Sl.at (t := 62) (hat _ (.tail _ (.tail _ (.head _))))) (Sl.at (t := 62) (hat _ (.tail _ (.tail _ (.tail _ (.tail _ (.head _))))))) (hat _ (.tail _ (.tail _ (.tail _ (.head _))))) (hat _ (.tail _ (.tail _ (.tail _ (.tail _ (.tail _ (.head _)))))))) ?_) rfl
    rintro _ _ ⟨rfl, rfl⟩
    refine AB.u 27 rfl (by decide +kernel) (Dtu.pickT (lk rfl) (lk rfl)) rfl ?_
    refine AB.u 28 rfl (by decide +kernel) (Dtu.asg (lk rfl)) rfl ?_
    refine AB.done (by decide +kernel) ?_
    refine Then.next ?_
    refine Body.ret ?_
    exact ⟨.inr rfl, _, pk [1, 1, 1, 0, 0, 0] rfl, bool_eq (by simp; omega), rfl⟩
  · refine AB.gn 18 rfl (by decide +kernel) rfl rfl rfl rfl rfl ?_
    refine AB.gn 19 rfl (by decide +kernel) rfl rfl rfl rfl rfl ?_
    refine AB.gn 20 rfl (by decide +kernel) rfl rfl rfl rfl rfl ?_
    refine AB.gn 21 rfl (by decide +kernel) rfl rfl rfl rfl rfl ?_
    refine AB.gn 22 rfl (by decide +kernel) rfl rfl rfl rfl rfl ?_
    refine AB.gn 23 rfl (by decide +kernel) rfl rfl rfl rfl rfl ?_
    refine AB.gn 24 rfl (by decide +kernel) rfl rfl rfl rfl rfl ?_
    refine AB.gn 25 rfl (by decide +kernel) rfl rfl rfl rfl rfl ?_
    refine AB.gn 26 rfl (by decide +kernel) rfl rfl rfl rfl rfl ?_
    refine AB.u 27 rfl (by decide +kernel) (Dtu.pickF (lk rfl) (lk rfl)) rfl ?_
    refine AB.u 28 rfl (by decide +kernel) (Dtu.asg (lk rfl)) rfl ?_
    refine AB.done (by decide +kernel) ?_
    refine Then.next ?_
    refine Body.ret ?_
    exact ⟨.inr rfl, _, pk [1, 1, 1, 0, 0, 0] rfl, bool_eq (by simp; omega), rfl⟩
theorem same_g (E : Env) (b b2 : Nat) (g o : Gd) : Does Try.prog 35 #[.pointer (some ⟨b, 0, none⟩), .pointer (some ⟨b2, 0, none⟩)] E ([gridP b g, gridP b2 o]) fun r H' => r = .bool (g.same o) ∧ H' = [gridP b g, gridP b2 o] := by
  intro w s
  obtain ⟨ok, a, c, rs, hr, s1⟩ := gridP_out s
  have s2 : St E (gridP b2 o :: gridA b g.c a rs.length c rs) w := s1.perm (by exact (List.perm_append_comm (l₂ := [gridP b2 o])))
  obtain ⟨ok2, a2, c2, ss, hr2, s3⟩ := gridP_out s2
  have s4 : St E (gridA b g.c a rs.length c rs ++ gridA b2 o.c a2 ss.length c2 ss) w := s3.perm List.perm_append_comm
  refine (gsame_ok E b b2 g.c o.c a a2 0 0 c c2 rs ss (by have := ok.r; have := Gd.len hr; omega) (by have := ok2.r; have := Gd.len hr2; omega) w s4).mono ?_
  rintro e w' ⟨v, H', rfl, ⟨rfl, rfl⟩, s'⟩
  refine ⟨_, _, rfl, ⟨?_, rfl⟩, ?_⟩
  · rw [hr, hr2]; rfl
  · have s5 := gridP_in (H := gridA b2 o.c a2 ss.length c2 ss) ok hr s'
    have s6 : St E (gridA b2 o.c a2 ss.length c2 ss ++ [gridP b g]) w' := s5.perm (List.perm_append_comm (l₁ := [gridP b g]))
    exact (gridP_in (H := [gridP b g]) ok2 hr2 s6).perm (List.Perm.swap _ _ _)
/-- all that a grid holds may stand in a cell -/
def Gd.In (g : Gd) : Prop := ∀ i k, (g.f i k).In
structure GAs where
  i : Nat
  a : Option Addr
  c : Nat
theorem pre_flat (g : Gd) (i k : Nat) (hk : k < g.c) : ((List.range (i * g.c + (k + 1))).map fun j => g.f (j / g.c) (j % g.c)).flatMap Cell.renc = ((List.range (i * g.c + k)).map fun j => g.f (j / g.c) (j % g.c)).flatMap Cell.renc ++ (g.f i k).renc := by
  have := pre_succ (fun j => g.f (j / g.c) (j % g.c)) (i * g.c + k)
  rw [(idx_div hk).1, (idx_div hk).2] at this
  exact this
theorem as17_ok (E : Env) (b : Nat) (g : Gd) (ok : g.Ok) (hin : g.In) : Does Try.prog 21 #[.pointer (some ⟨b, 0, none⟩)] E ([gridP b g]) fun r H' => ∃ a c, r = .agg #[.int .i64 g.r, .int .i64 g.c, .slice a (g.r * g.c) c] ∧ H' = [gridP b g, osl 49 11 (.slice a (g.r * g.c) c) (g.r * g.c) (g.flat.flatMap Cell.renc)] := by
  have hb := ok.r
  have hc := ok.c
  have ha := area ok
  refine Does.go _ _ Try.func21 rfl Try.ntmps21 rfl rfl ?_
  refine Body.seq ?_
  refine Body.region ?_
  refine Ops.s (Stp.alloc ty29 (fun b2 => ?_)) rfl
  refine Ops.nil ?_
  refine Then.next ?_
  refine Body.seq ?_
  refine Body.region ?_
  refine Ops.u (Dtu.mv (lk rfl)) rfl ?_
  refine Ops.s (Stp.callOwn [1] rfl rfl Try.call32 (lks rfl) (fun E' le hat => rowsn_g E' _ _) ?_) rfl
  rintro _ _ ⟨rfl, rfl⟩
  refine Ops.u (Dtu.mv (lk rfl)) rfl ?_
  refine Ops.s (Stp.callOwn [0] rfl rfl Try.call33 (lks rfl) (fun E' le hat => colsn_g E' _ _) ?_) rfl
  rintro _ _ ⟨rfl, rfl⟩
  refine Ops.u (Dtu.build ty29 pl29 (lkp rfl) rfl rfl) rfl ?_
  refine Ops.s (Stp.alloc ty29 (fun b3 => ?_)) rfl
  refine Ops.e (Stp.store 0 Try.sizeOf29 (lk rfl) (lk rfl) rfl rfl rfl rfl rfl rfl rfl ?_)
  refine Ops.nil ?_
  refine Then.next ?_
  refine Body.seq ?_
  refine Body.seq ?_
  refine Body.region ?_
  refine Ops.u (Dtu.asg (lk rfl)) rfl ?_
  refine Ops.nil ?_
  refine Then.next ?_
  refine Body.block ?_
  refine Body.conseq (fun w s => osl_nil (t := 49) (sz := 11) (a := none) s) ?_
  have hz0 : (((List.range (0 * g.c)).map fun j => g.f (j / g.c) (j % g.c)).flatMap Cell.renc) = [] := by rw [Nat.zero_mul]; rfl
  have hz1 : (0 : Nat) * g.c = 0 := Nat.zero_mul _
  refine Body.loopH (γ := GAs) rfl (fun s => [(4, .int .i64 s.i)]) (fun s => [(0, osl 49 11 (.slice s.a (s.i * g.c) s.c) (s.i * g.c) (((List.range (s.i * g.c)).map fun j => g.f (j / g.c) (j % g.c)).flatMap Cell.renc)), (1, own b3 [.int .i64 g.r, .int .i64 g.c, .slice s.a (s.i * g.c) s.c] 29)]) (fun s => s.i ≤ g.r) (fun s => g.r - s.i) ⟨0, none, 0⟩ (Nat.zero_le _) ⟨rfl, trivial⟩ (by dsimp only; rw [hz0, hz1]; rfl) ?_
  rintro ⟨i, la, lc⟩ u hi
  dsimp only at hi ⊢
  by_cases hlt : i < g.r
  · have hha : g.has i 0 := ⟨by omega, by omega, by omega, by omega⟩
    refine Body.seq ?_
    refine Body.seq ?_
    refine Body.region ?_
    refine Ops.u (Dtu.mv (lk rfl)) rfl ?_
    refine Ops.u (Dtu.mv (lk rfl)) rfl ?_
    refine Ops.s (Stp.callOwn [2] rfl rfl Try.call32 (lks rfl) (fun E' le hat => rowsn_g E' _ _) ?_) rfl
    rintro _ _ ⟨rfl, rfl⟩
    refine Ops.u (Dtu.lss (lk rfl) (lk rfl)) rfl ?_
    refine Ops.nil ?_
    refine Then.next ?_
    refine Body.condP (lk rfl) (fun _ => ?_) (fun hn => absurd (by first | omega | assumption | decide) hn)
    refine Body.skip ?_
    refine Then.next ?_
    refine Body.seq ?_
    refine Body.block ?_
    refine Body.seq ?_
    refine Body.region ?_
    refine Ops.u (Dtu.mv (lk rfl)) rfl ?_
    refine Ops.u (Dtu.mv (lk rfl)) rfl ?_
    refine Ops.s (Stp.callOwn [0] rfl rfl Try.call28 (lks rfl) (fun E' le hat => line_g E' _ _ _ (by first | assumption | omega)) ?_) rfl
    rintro _ _ ⟨la22, lc22, rfl, rfl⟩
    refine Ops.u (Dtu.mv (lk rfl)) rfl ?_
    refine Ops.u (Dtu.ext (lk rfl) rfl) rfl ?_
    refine Ops.u (Dtu.ext (lk rfl) rfl) rfl ?_
    refine Ops.u (Dtu.asg (lk rfl)) rfl ?_
    refine Ops.u (Dtu.asg (lk rfl)) rfl ?_
    refine Ops.nil ?_
    refine Then.next ?_
    refine Body.seq ?_
    refine Body.region ?_
    refine Ops.u (Dtu.asg (lk rfl)) rfl ?_
    refine Ops.nil ?_
    refine Then.next ?_
    refine Body.block ?_
    have hz2 : (((List.range (i * g.c)).map fun j => g.f (j / g.c) (j % g.c)).flatMap Cell.renc) = (((List.range (i * g.c + 0)).map fun j => g.f (j / g.c) (j % g.c)).flatMap Cell.renc) := rfl
    refine Body.loopH (γ := GAs) rfl (fun s => [(7, .int .i64 s.i)]) (fun s => [(2, osl 49 11 (.slice s.a (i * g.c + s.i) s.c) (i * g.c + s.i) (((List.range (i * g.c + s.i)).map fun j => g.f (j / g.c) (j % g.c)).flatMap Cell.renc)), (3, own b3 [.int .i64 g.r, .int .i64 g.c, .slice s.a (i * g.c + s.i) s.c] 29)]) (fun s => s.i ≤ g.c) (fun s => g.c - s.i) (⟨0, la, lc⟩) (Nat.zero_le _) ⟨rfl, trivial⟩ rfl ?_
    rintro ⟨k, ka, kc⟩ u2 hk
    dsimp only at hk ⊢
    have htl := tabR_len g.c (g.f ((i : Nat) : Int).toNat)
    by_cases hkt : k < g.c
    · have hil : i * g.c + k < g.r * g.c := idx_lt hlt hkt
      have hat := tabR_at (f := g.f ((i : Nat) : Int).toNat) hkt
      have hfi := (hin i k).1
      have hfi2 := (hin i k).2.1
      have hs := pre_flat g i k hkt
      have h0 : 0 ≤ ((tabR g.c (g.f ((i : Nat) : Int).toNat))[k]!).fl := by rw [hat]; exact hfi
      have h1 : ((tabR g.c (g.f ((i : Nat) : Int).toNat))[k]!).fl < 256 := by rw [hat]; exact hfi2
      have hs2 : ((List.range (i * g.c + (k + 1))).map fun j => g.f (j / g.c) (j % g.c)).flatMap Cell.renc = ((List.range (i * g.c + k)).map fun j => g.f (j / g.c) (j % g.c)).flatMap Cell.renc ++ ((tabR g.c (g.f ((i : Nat) : Int).toNat))[k]!).renc := by rw [hs, hat]; rfl
      refine Body.seq ?_
      refine Body.seq ?_
      refine Body.region ?_
      refine Ops.u (Dtu.mv (lk rfl)) rfl ?_
      refine Ops.u (Dtu.mv (lk rfl)) rfl ?_
      refine Ops.u (Dtu.lenS Try.underlying62 (Sl.osl 1 rfl) (lk rfl)) rfl ?_
      refine Ops.u (Dtu.lss (lk rfl) (lk rfl)) rfl ?_
      refine Ops.nil ?_
      refine Then.next ?_
      refine Body.condP (lk rfl) (fun _ => ?_) (fun hn => absurd (by first | omega | assumption | decide) hn)
      refine Body.skip ?_
      refine Then.next ?_
      refine Body.seq ?_
      refine Body.block ?_
      refine Body.draw mixed ?_
      refine AB.u 0 rfl (by decide +kernel) (Dtu.fld fa29_2 (lk rfl)) rfl ?_
      refine AB.d 1 rfl (by decide +kernel) rfl (Det.ld Try.isAgg27 (lk rfl) (Rd.ow 3 rfl rfl)) rfl ?_
      refine AB.u 2 rfl (by decide +kernel) (Dtu.mv (lk rfl)) rfl ?_
      refine AB.u 3 rfl (by decide +kernel) (Dtu.mv (lk rfl)) rfl ?_
      refine AB.u 4 rfl (by decide +kernel) (Dtu.ix (i := (k)) Try.underlying62 Try.sizeOf39 (Sl.osl 1 rfl) (lk rfl) (lk rfl) (by omega) (by omega)) rfl ?_
      refine AB.d 5 rfl (by decide +kernel) rfl (Det.lda Try.isAgg39 Try.sizeOf39 (lk rfl) (Rds.sl (Sl.osl 1 rfl) (gf (sz := 4) (fun _ => rfl) (by omega))) rfl) rfl ?_
      refine AB.s 6 rfl (by decide +kernel) (by decide +kernel) (Stp.call rfl Try.call18 (lks rfl) (fun E' le hat => cell17_ok E' _ _ _ _ (by first | assumption | omega) (by first | assumption | omega)) ?_) rfl
      rintro _ _ ⟨rfl, rfl⟩
      refine AB.s 7 rfl (by decide +kernel) (by decide +kernel) (Stp.buildSliceO Try.underlying27 ty49 (by decide) (by decide) (lkp rfl) rfl rfl rfl (by decide) (fun v38 => ?_)) rfl
      refine AB.s 8 rfl (by decide +kernel) (by decide +kernel) (Stp.append 3 Try.underlying27 ty49 rfl rfl (lk rfl) (lk rfl) (Sl.osl 0 rfl) (by first | rfl | exact all_map (fun _ => rfl) _ | exact all_flat (fun _ => rfl) _) (by omega) (by omega) (fun v39 => ?_)) rfl
      refine AB.u 9 rfl (by decide +kernel) (Dtu.fld fa29_2 (lk rfl)) rfl ?_
      refine AB.pure (Sl.shape (Sl.osl 3 rfl)) fun hslv39 => ?_
      obtain ⟨v39a, v39c, rfl⟩ := hslv39
      refine AB.e 10 rfl (by decide +kernel) (by decide +kernel) (Stp.store 4 Try.sizeOf27 (lk rfl) (lk rfl) rfl rfl rfl rfl rfl rfl rfl ?_)
      refine AB.done (by decide +kernel) ?_
      refine Blk.norm ?_
      refine Then.next ?_
      refine Body.region ?_
      refine Ops.u (Dtu.mv (lk rfl)) rfl ?_
      refine Ops.u (Dtu.add (lk rfl) (lk rfl) (w64 (by omega) (by omega))) rfl ?_
      refine Ops.u (Dtu.asg (lk rfl)) rfl ?_
      refine Ops.nil ?_
      refine Round.goK [1, 1, 1, 1, 1] ⟨k + 1, v39a, v39c⟩ rfl rfl rfl ⟨rfl, trivial⟩ rfl (by dsimp only; rw [hs2]; rfl) (by dsimp only; omega) (by dsimp only; omega)
    · obtain rfl : k = g.c := by omega
      have e1 : (i + 1) * g.c = i * g.c + g.c := Nat.succ_mul _ _
      refine Body.seq ?_
      refine Body.seq ?_
      refine Body.region ?_
      refine Ops.u (Dtu.mv (lk rfl)) rfl ?_
      refine Ops.u (Dtu.mv (lk rfl)) rfl ?_
      refine Ops.u (Dtu.lenS Try.underlying62 (Sl.osl 1 rfl) (lk rfl)) rfl ?_
      refine Ops.u (Dtu.lss (lk rfl) (lk rfl)) rfl ?_
      refine Ops.nil ?_
      refine Then.next ?_
      refine Body.condP (lk rfl) (fun hy => absurd hy (by first | omega | assumption | decide)) (fun _ => ?_)
      refine Body.exit ?_
      refine Then.exit ?_
      refine Round.exit ?_
      refine Blk.here ?_
      refine Blk.norm ?_
      refine Then.next ?_
      refine Body.region ?_
      refine Ops.u (Dtu.mv (lk rfl)) rfl ?_
      refine Ops.u (Dtu.add (lk rfl) (lk rfl) (w64 (by omega) (by omega))) rfl ?_
      refine Ops.u (Dtu.asg (lk rfl)) rfl ?_
      refine Ops.nil ?_
      exact Round.goW ⟨i + 1, ka, kc⟩ rfl rfl rfl ⟨rfl, trivial⟩ (fun w s => by dsimp only; rw [e1]; exact pk [2, 2, 0, 1] rfl w s) (by dsimp only; omega) (by dsimp only; omega)
  · obtain rfl : i = g.r := by omega
    refine Body.seq ?_
    refine Body.seq ?_
    refine Body.region ?_
    refine Ops.u (Dtu.mv (lk rfl)) rfl ?_
    refine Ops.u (Dtu.mv (lk rfl)) rfl ?_
    refine Ops.s (Stp.callOwn [2] rfl rfl Try.call32 (lks rfl) (fun E' le hat => rowsn_g E' _ _) ?_) rfl
    rintro _ _ ⟨rfl, rfl⟩
    refine Ops.u (Dtu.lss (lk rfl) (lk rfl)) rfl ?_
    refine Ops.nil ?_
    refine Then.next ?_
    refine Body.condP (lk rfl) (fun hy => absurd hy (by first | omega | assumption | decide)) (fun _ => ?_)
    refine Body.exit ?_
    refine Then.exit ?_
    refine Round.exit ?_
    refine Blk.here ?_
    refine Then.next ?_
    refine Body.seq ?_
    refine Body.region ?_
    refine Ops.d (Det.lda Try.isAgg29 Try.sizeOf29 (lk rfl) (Rds.ow (m := 3) 2 rfl rfl) rfl) rfl ?_
    refine Ops.e (Stp.store 3 Try.sizeOf29 (lk rfl) (lk rfl) rfl rfl rfl rfl rfl rfl rfl ?_)
    refine Ops.nil ?_
    refine Then.next ?_
    refine Body.ret ?_
    exact ⟨.inr rfl, _, Loads.agg Try.isAgg29 Try.sizeOf29 (Rds.ow (m := 3) 3 rfl rfl) rfl, _, pk [0, 0] rfl, la, lc, rfl, rfl⟩
end Go.Proofs.Ytpmapedhigjalaa
end
