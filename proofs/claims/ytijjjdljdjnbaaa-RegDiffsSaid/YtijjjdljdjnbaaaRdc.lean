/- Qc: Vint, VintB, Slices, Cell, View, CellB, ViewB, Write, ReadC, Byts, Read, Alive20. -/
import Derived.Test.YtijjjdljdjnbaaaRda
import Derived.Test.YtijjjdljdjnbaaaRdb
section
/- Numbers in one, two, four or eight bytes: what the functions of package vint come to. -/
namespace Go.Proofs.Ytijjjdljdjnbaaa
set_option maxRecDepth 100000
set_option linter.unusedVariables false
set_option linter.unusedSimpArgs false
open Go.Sx

theorem tops_ok (E : Env) : Does Try.prog 132 (#[] : Array Value) E [] fun r H' => r = .agg ([.int .u64 64, .int .u64 16384, .int .u64 1073741824, .int .u64 4611686018427387904] : List Value).toArray ∧ H' = [] := by
  refine Does.go (args := []) _ _ Try.func132 rfl Try.ntmps132 rfl rfl ?_
  refine Body.seq ?_
  refine Body.region ?_
  refine Ops.s (Stp.alloc ty209 (fun b0 => ?_)) rfl
  refine Ops.nil ?_
  refine Then.next ?_
  refine Body.seq ?_
  refine Body.region ?_
  refine Ops.u (Dtu.buildArr ty209 Try.underlying209 Try.sizeOf75 (lkp rfl) rfl rfl) rfl ?_
  refine Ops.e (Stp.store 0 Try.sizeOf209 (lk rfl) (lk rfl) rfl rfl rfl rfl rfl rfl rfl ?_)
  refine Ops.nil ?_
  refine Then.next ?_
  refine Body.ret ?_
  refine ⟨.inr rfl, _, Loads.agg Try.isAgg209 Try.sizeOf209 (Rds.ow (m := 4) 0 rfl rfl) rfl, _, pk [] rfl, rfl, rfl⟩

def topsL : List Value := [.int .u64 64, .int .u64 16384, .int .u64 1073741824, .int .u64 4611686018427387904]
def topsN (i : Nat) : Int := match i with | 0 => 64 | 1 => 16384 | 2 => 1073741824 | _ => 4611686018427387904
theorem tops_get (i : Nat) (h : i < 4) : topsL[0 + i * 1]? = some (.int .u64 (topsN i)) := by
  match i, h with
  | 0, _ => rfl
  | 1, _ => rfl
  | 2, _ => rfl
  | 3, _ => rfl
def classS (v : Int) : Nat := if v < 64 then 0 else if v < 16384 then 1 else if v < 1073741824 then 2 else if v < 4611686018427387904 then 3 else 4
theorem classS_of (v : Int) (i : Nat) (h : i < 4) (h1 : v < topsN i) (h2 : ∀ j, j < i → topsN j ≤ v) : classS v = i := by
  unfold classS
  match i, h with
  | 0, _ => simp only [topsN] at h1; simp [h1]
  | 1, _ => have := h2 0 (by omega); simp only [topsN] at *; repeat (first | rw [if_pos (by omega)] | rw [if_neg (by omega)])
  | 2, _ => have := h2 0 (by omega); have := h2 1 (by omega); simp only [topsN] at *; repeat (first | rw [if_pos (by omega)] | rw [if_neg (by omega)])
  | 3, _ => have := h2 0 (by omega); have := h2 1 (by omega); have := h2 2 (by omega); simp only [topsN] at *; repeat (first | rw [if_pos (by omega)] | rw [if_neg (by omega)])
theorem classS_4 (v : Int) (h2 : ∀ j, j < 4 → topsN j ≤ v) : classS v = 4 := by
  unfold classS
  have := h2 0 (by omega); have := h2 1 (by omega); have := h2 2 (by omega); have := h2 3 (by omega); simp only [topsN] at *; repeat (first | rw [if_pos (by omega)] | rw [if_neg (by omega)])
theorem classS_le (v : Int) : classS v ≤ 4 := by unfold classS; (repeat' split) <;> omega

theorem class_ok (E : Env) (v : Int) : Does Try.prog 115 #[.int .u64 v] E [] fun r H' => r = .int .i64 (classS v) ∧ H' = [] := by
  refine Does.go (args := [.int .u64 v]) _ _ Try.func115 rfl Try.ntmps115 rfl rfl ?_
  refine Body.seq ?_
  refine Body.region ?_
  refine Ops.u (Dtu.asg (lk rfl)) rfl ?_
  refine Ops.nil ?_
  refine Then.next ?_
  refine Body.scope ?_
  refine Body.seq ?_
  refine Body.region ?_
  refine Ops.s (Stp.call rfl Try.call132 (lks rfl) (fun E' le hat => tops_ok E') ?_) rfl
  rintro _ _ ⟨rfl, rfl⟩
  refine Ops.s (Stp.alloc ty209 (fun b3 => ?_)) rfl
  refine Ops.e (Stp.store 0 Try.sizeOf209 (lk rfl) (lk rfl) rfl rfl rfl rfl rfl rfl rfl ?_)
  refine Ops.nil ?_
  refine Then.next ?_
  refine Body.seq ?_
  refine Body.region ?_
  refine Ops.u (Dtu.asg (lk rfl)) rfl ?_
  refine Ops.nil ?_
  refine Then.next ?_
  refine Body.seq ?_
  refine Body.label ?_
  refine Then.next ?_
  refine Body.seq ?_
  refine Body.block ?_
  refine Body.loopF (γ := Nat) rfl (fun i => [(4, .int .i64 i)]) (fun _ => [own b3 topsL 209]) (fun i => i ≤ 4 ∧ ∀ j, j < i → topsN j ≤ v) (fun i => 4 - i) 0 ⟨by omega, fun _ h => by omega⟩ ⟨rfl, trivial⟩ rfl ?_
  rintro i u ⟨h0, h1⟩
  refine Body.seq ?_
  refine Body.seq ?_
  refine Body.region ?_
  refine Ops.u (Dtu.mv (lk rfl)) rfl ?_
  refine Ops.u (Dtu.lss (lk rfl) (lk rfl)) rfl ?_
  refine Ops.nil ?_
  refine Then.next ?_
  refine Body.condP (lk rfl) (fun c7 => ?_) (fun c7 => ?_)
  · refine Body.skip ?_
    refine Then.next ?_
    refine Body.block ?_
    refine Body.seq ?_
    refine Body.seq ?_
    refine Body.region ?_
    refine Ops.u (Dtu.mv (lk rfl)) rfl ?_
    refine Ops.u (Dtu.mv (lk rfl)) rfl ?_
    refine Ops.u (Dtu.ixa (i := (i)) Try.underlying209 Try.sizeOf75 (lk rfl) (lk rfl) (by omega) (by omega)) rfl ?_
    refine Ops.d (Det.ld Try.isAgg75 (lk rfl) (Rd.ow 0 rfl (tops_get i (by omega)))) rfl ?_
    refine Ops.u (Dtu.lss (lk rfl) (lk rfl)) rfl ?_
    refine Ops.nil ?_
    refine Then.next ?_
    refine Body.condP (lk rfl) (fun c12 => ?_) (fun c12 => ?_)
    · refine Body.exit ?_
      refine Then.exit ?_
      refine Blk.past rfl ?_
      refine Round.exit ?_
      refine Blk.here ?_
      refine Then.next ?_
      refine Body.seq ?_
      refine Body.region ?_
      refine Ops.u (Dtu.mv (lk rfl)) rfl ?_
      refine Ops.u (Dtu.asg (lk rfl)) rfl ?_
      refine Ops.nil ?_
      refine Then.next ?_
      refine Body.ret ?_
      refine ⟨.inr rfl, _, pk [] rfl, ?_, rfl⟩
      rw [classS_of v i (by omega) c12 h1]; rfl
    · refine Body.skip ?_
      refine Then.next ?_
      refine Body.region ?_
      refine Ops.u (Dtu.mv (lk rfl)) rfl ?_
      refine Ops.u (Dtu.add (lk rfl) (lk rfl) (w64 (by omega) (by omega))) rfl ?_
      refine Ops.u (Dtu.asg (lk rfl)) rfl ?_
      refine Ops.nil ?_
      refine Blk.norm ?_
      exact Round.goF (i + 1) rfl rfl rfl ⟨rfl, trivial⟩ rfl ⟨by omega, fun j hj => by
        by_cases e : j = i
        · subst e; omega
        · exact h1 j (by omega)⟩ (by omega)
  · refine Body.exit ?_
    refine Then.exit ?_
    refine Round.exit ?_
    refine Blk.here ?_
    refine Then.next ?_
    refine Body.seq ?_
    refine Body.region ?_
    refine Ops.u (Dtu.mv (lk rfl)) rfl ?_
    refine Ops.u (Dtu.asg (lk rfl)) rfl ?_
    refine Ops.nil ?_
    refine Then.next ?_
    refine Body.ret ?_
    refine ⟨.inr rfl, _, pk [] rfl, ?_, rfl⟩
    rw [classS_4 v (fun j hj => h1 j (by omega)), show i = 4 by omega]; rfl

/-- how many bytes a number has; 0: it has none -/
def sizeS (v : Int) : Nat := if classS v = 4 then 0 else 2 ^ classS v
theorem sizeS_le (v : Int) : sizeS v ≤ 8 := by
  unfold sizeS classS; (repeat' split) <;> simp_all
theorem size_ok (E : Env) (v : Int) : Does Try.prog 114 #[.int .u64 v] E [] fun r H' => r = .int .i64 (sizeS v) ∧ H' = [] := by
  refine Does.go (args := [.int .u64 v]) _ _ Try.func114 rfl Try.ntmps114 rfl rfl ?_
  refine Body.seq ?_
  refine Body.region ?_
  refine Ops.u (Dtu.asg (lk rfl)) rfl ?_
  refine Ops.nil ?_
  refine Then.next ?_
  refine Body.seq ?_
  refine Body.region ?_
  refine Ops.u (Dtu.mv (lk rfl)) rfl ?_
  refine Ops.s (Stp.call rfl Try.call115 (lks rfl) (fun E' le hat => class_ok E' _) ?_) rfl
  rintro _ _ ⟨rfl, rfl⟩
  refine Ops.u (Dtu.asg (lk rfl)) rfl ?_
  refine Ops.nil ?_
  refine Then.next ?_
  refine Body.seq ?_
  refine Body.seq ?_
  refine Body.region ?_
  refine Ops.u (Dtu.mv (lk rfl)) rfl ?_
  refine Ops.u (Dtu.eql (lk rfl) (lk rfl)) rfl ?_
  refine Ops.nil ?_
  refine Then.next ?_
  refine Body.condP (lk rfl) (fun c7 => ?_) (fun c7 => ?_)
  · refine Body.seq ?_
    refine Body.region ?_
    refine Ops.u (Dtu.asg (lk rfl)) rfl ?_
    refine Ops.nil ?_
    refine Then.next ?_
    refine Body.ret ?_
    refine Then.ret ?_
    refine ⟨.inr rfl, _, pk [] rfl, ?_, rfl⟩
    unfold sizeS; rw [if_pos (by omega)]; rfl
  · refine Body.skip ?_
    refine Then.next ?_
    refine Body.seq ?_
    refine Body.region ?_
    refine Ops.u (Dtu.mv (lk rfl)) rfl ?_
    refine Ops.u (Dtu.shl (lk rfl) (lk rfl) (by first | decide | omega) rfl) rfl ?_
    refine Ops.u (Dtu.asg (lk rfl)) rfl ?_
    refine Ops.nil ?_
    refine Then.next ?_
    refine Body.ret ?_
    refine ⟨.inr rfl, _, pk [] rfl, ?_, rfl⟩
    have h4 := classS_le v
    unfold sizeS; rw [if_neg (by omega)]
    have : classS v < 4 := by omega
    generalize classS v = c at *
    match c, this with
    | 0, _ => rfl
    | 1, _ => rfl
    | 2, _ => rfl
    | 3, _ => rfl

/-- the j-th of n bytes, the highest first -/
def byteAt (v : Int) (n j : Nat) : Int := v / 256 ^ (n - 1 - j) % 256
def putL (v : Int) : List Int := (List.range (sizeS v)).map fun j => byteAt v (sizeS v) j + if j = 0 then 64 * (classS v : Int) else 0
/-- k bytes have been laid, from the last on -/
def laid (v : Int) (n k : Nat) : List Int := (List.range n).map fun j => if n - k ≤ j then byteAt v n j else 0
theorem laid_0 (v : Int) (n : Nat) : List.replicate n (0 : Int) = laid v n 0 := by
  apply List.ext_getElem
  · simp [laid]
  · intro j h1 h2
    simp only [List.length_replicate] at h1
    simp [laid, show ¬ n ≤ j by omega]
theorem laid_step (v : Int) (n k : Nat) (hk : k < n) : (laid v n k).set (n - 1 - k) (v / 256 ^ k % 256) = laid v n (k + 1) := by
  apply List.ext_getElem
  · simp [laid]
  · intro j h1 h2
    simp only [laid, List.length_set, List.length_map, List.length_range] at h1
    rw [List.getElem_set]
    simp only [laid, List.getElem_map, List.getElem_range]
    by_cases h : n - 1 - k = j
    · rw [if_pos h, if_pos (by omega)]; unfold byteAt; rw [show n - 1 - j = k by omega]
    · rw [if_neg h]
      by_cases h3 : n - k ≤ j
      · rw [if_pos h3, if_pos (by omega)]
      · rw [if_neg h3, if_neg (by omega)]
theorem fdiv8 (n : Int) : n.fdiv (2 ^ (min (8 : Int).toNat IntKind.u64.bits)) = n / 256 := by
  have : (2 : Int) ^ (min (8 : Int).toNat IntKind.u64.bits) = 256 := by decide
  rw [this, Int.fdiv_eq_ediv_of_nonneg _ (by omega)]
theorem wrap_u8 (n : Int) : IntKind.u8.wrap n = n % 256 := by
  simp only [IntKind.wrap, IntKind.bits, IntKind.signed]; simp

theorem or_high : ∀ a : Fin 64, ∀ c : Fin 4, ibit .or .u8 (a.val : Int) (IntKind.u8.wrap (IntKind.u8.wrap (c.val : Int) * 2 ^ (min (6 : Int).toNat IntKind.u8.bits))) = (a.val : Int) + 64 * (c.val : Int) := by decide +kernel
theorem class_of_size {v : Int} (h : sizeS v ≠ 0) : classS v < 4 ∧ sizeS v = 2 ^ classS v := by
  have := classS_le v
  unfold sizeS at *
  split at h
  · omega
  · rename_i h4; rw [if_neg h4]; exact ⟨by omega, rfl⟩
theorem byte0_lt (v : Int) (h0 : 0 ≤ v) (hz : sizeS v ≠ 0) : 0 ≤ byteAt v (sizeS v) 0 ∧ byteAt v (sizeS v) 0 < 64 := by
  unfold byteAt sizeS classS at *
  split
  · simp; omega
  · split
    · simp; omega
    · split
      · simp; omega
      · split
        · simp; omega
        · rename_i h1 h2 h3 h4; simp [h1, h2, h3, h4] at hz
theorem put_last (v : Int) (h0 : 0 ≤ v) (hz : sizeS v ≠ 0) :
    (laid v (sizeS v) (sizeS v)).set 0 (ibit .or .u8 (laid v (sizeS v) (sizeS v))[0]! (IntKind.u8.wrap (IntKind.u8.wrap (classS v : Int) * 2 ^ (min (6 : Int).toNat IntKind.u8.bits)))) = putL v := by
  obtain ⟨hc, _⟩ := class_of_size hz
  obtain ⟨hb0, hb1⟩ := byte0_lt v h0 hz
  have e0 : (laid v (sizeS v) (sizeS v))[0]! = byteAt v (sizeS v) 0 := by
    rw [getElem!_pos _ 0 (by simp [laid]; omega)]; simp [laid]
  have h := or_high ⟨(byteAt v (sizeS v) 0).toNat, by omega⟩ ⟨classS v, hc⟩
  simp only [Int.toNat_of_nonneg hb0] at h
  rw [e0, h]
  apply List.ext_getElem
  · simp [laid, putL]
  · intro j h1 h2
    rw [List.getElem_set]
    simp only [laid, putL, List.getElem_map, List.getElem_range]
    by_cases hj : 0 = j
    · subst hj; simp
    · rw [if_neg hj, if_pos (by omega), if_neg (by omega)]; omega
theorem putL_len (v : Int) : (putL v).length = sizeS v := by simp [putL]

theorem put_ok (E : Env) (v : Int) (h0 : 0 ≤ v) : Does Try.prog 73 #[.int .u64 v] E [] fun r H' =>
    (sizeS v = 0 ∧ r = .tuple #[.slice none 0 0, .int .i64 11] ∧ H' = []) ∨ (sizeS v ≠ 0 ∧ ∃ s, r = .tuple #[s, .int .i64 0] ∧ H' = [osl 5 1 s (sizeS v) ((putL v).map (.int .u8))]) := by
  refine Does.go (args := [.int .u64 v]) _ _ Try.func73 rfl Try.ntmps73 rfl rfl ?_
  refine Body.seq ?_
  refine Body.region ?_
  refine Ops.u (Dtu.asg (lk rfl)) rfl ?_
  refine Ops.u (Dtu.asg (lk rfl)) rfl ?_
  refine Ops.nil ?_
  refine Then.next ?_
  refine Body.seq ?_
  refine Body.region ?_
  refine Ops.u (Dtu.mv (lk rfl)) rfl ?_
  refine Ops.s (Stp.call rfl Try.call114 (lks rfl) (fun E' le hat => size_ok E' _) ?_) rfl
  rintro _ _ ⟨rfl, rfl⟩
  refine Ops.u (Dtu.asg (lk rfl)) rfl ?_
  refine Ops.nil ?_
  refine Then.next ?_
  refine Body.seq ?_
  refine Body.seq ?_
  refine Body.region ?_
  refine Ops.u (Dtu.mv (lk rfl)) rfl ?_
  refine Ops.u (Dtu.eql (lk rfl) (lk rfl)) rfl ?_
  refine Ops.nil ?_
  refine Then.next ?_
  refine Body.condP (lk rfl) (fun c11 => ?_) (fun c11 => ?_)
  · refine Body.seq ?_
    refine Body.region ?_
    refine Ops.u (Dtu.asg (lk rfl)) rfl ?_
    refine Ops.u (Dtu.asg (lk rfl)) rfl ?_
    refine Ops.nil ?_
    refine Then.next ?_
    refine Body.ret ?_
    refine Then.ret ?_
    exact ⟨.inr rfl, _, pk [] rfl, .inl ⟨by omega, rfl, rfl⟩⟩
  · have hn := sizeS_le v
    have hz : sizeS v ≠ 0 := by omega
    generalize hsz : sizeS v = n at *
    refine Body.skip ?_
    refine Then.next ?_
    refine Body.seq ?_
    refine Body.region ?_
    refine Ops.u (Dtu.mv (lk rfl)) rfl ?_
    refine Ops.s (Stp.make (m := (n)) Try.underlying32 ty5 rfl (lk rfl) (lk rfl) (by omega) (by omega) (by omega) (fun v13 => ?_)) rfl
    refine Ops.u (Dtu.asg (lk rfl)) rfl ?_
    refine Ops.nil ?_
    refine Then.next ?_
    refine Body.seq ?_
    refine Body.region ?_
    refine Ops.u (Dtu.mv (lk rfl)) rfl ?_
    refine Ops.u (Dtu.asg (lk rfl)) rfl ?_
    refine Ops.nil ?_
    refine Then.next ?_
    refine Body.seq ?_
    refine Body.seq ?_
    refine Body.region ?_
    refine Ops.u (Dtu.mv (lk rfl)) rfl ?_
    refine Ops.u (Dtu.sub (lk rfl) (lk rfl) (w64 (by omega) (by omega))) rfl ?_
    refine Ops.u (Dtu.asg (lk rfl)) rfl ?_
    refine Ops.nil ?_
    refine Then.next ?_
    refine Body.block ?_
    refine Body.loopF (γ := Nat) rfl (fun k => [(7, .int .i64 ((n : Int) - 1 - k)), (6, .int .u64 (v / 256 ^ k))]) (fun k => [osl 5 1 v13 n ((laid v n k).map (.int .u8))]) (fun k => k ≤ n) (fun k => n - k) 0 (by omega)
      ⟨int_eq (by omega), int_eq (by simp), trivial⟩ (by rw [rep_map, laid_0]; rfl) ?_
    intro k u hk
    have hl : (laid v n k).length = n := by simp [laid]
    refine Body.seq ?_
    refine Body.seq ?_
    refine Body.region ?_
    refine Ops.u (Dtu.mv (lk rfl)) rfl ?_
    refine Ops.u (Dtu.geq (lk rfl) (lk rfl)) rfl ?_
    refine Ops.nil ?_
    refine Then.next ?_
    refine Body.condP (lk rfl) (fun c18 => ?_) (fun c18 => ?_)
    · refine Body.skip ?_
      refine Then.next ?_
      refine Body.seq ?_
      refine Body.block ?_
      refine Body.seq ?_
      refine Body.region ?_
      refine Ops.u (Dtu.mv (lk rfl)) rfl ?_
      refine Ops.u (Dtu.mv (lk rfl)) rfl ?_
      refine Ops.u (Dtu.mv (lk rfl)) rfl ?_
      refine Ops.u (Dtu.cvt Try.underlying75 Try.underlying5 (lk rfl) rfl) rfl ?_
      refine Ops.u (Dtu.ix (i := (n - 1 - k)) Try.underlying32 Try.sizeOf5 (Sl.osl 0 rfl) (lk rfl) (lk rfl) (by omega) (by omega)) rfl ?_
      refine Ops.e (Stp.storeM 0 Try.sizeOf5 rfl (lk rfl) (lk rfl) (fun _ => rfl) rfl (by omega) rfl ?_)
      refine Ops.nil ?_
      refine Then.next ?_
      refine Body.region ?_
      refine Ops.u (Dtu.mv (lk rfl)) rfl ?_
      refine Ops.u (Dtu.shr (lk rfl) (lk rfl) (by first | decide | omega) rfl) rfl ?_
      refine Ops.u (Dtu.asg (lk rfl)) rfl ?_
      refine Ops.nil ?_
      refine Blk.norm ?_
      refine Then.next ?_
      refine Body.region ?_
      refine Ops.u (Dtu.mv (lk rfl)) rfl ?_
      refine Ops.u (Dtu.sub (lk rfl) (lk rfl) (w64 (by omega) (by omega))) rfl ?_
      refine Ops.u (Dtu.asg (lk rfl)) rfl ?_
      refine Ops.nil ?_
      refine Round.goF (k + 1) rfl rfl rfl ⟨int_eq (by omega), int_eq ?_, trivial⟩ ?_ (by omega) (by omega)
      · rw [fdiv8, Int.pow_succ, Int.ediv_ediv_of_nonneg (Int.pow_nonneg (by omega))]
      · rw [wrap_u8, laid_step v n k (by omega)]
    · obtain rfl : k = n := by omega
      refine Body.exit ?_
      refine Then.exit ?_
      refine Round.exit ?_
      refine Blk.here ?_
      refine Then.next ?_
      refine Body.seq ?_
      refine Body.draw mixed ?_
      refine AB.u 0 rfl (by decide +kernel) (Dtu.mv (lk rfl)) rfl ?_
      refine AB.u 1 rfl (by decide +kernel) (Dtu.ix (i := 0) Try.underlying32 Try.sizeOf5 (Sl.osl 0 rfl) (lk rfl) (lk rfl) (by omega) (by omega)) rfl ?_
      refine AB.d 2 rfl (by decide +kernel) rfl (Det.ld Try.isAgg5 (lk rfl) (Rd.sl (Sl.osl 0 rfl) (gm (by omega)))) rfl ?_
      refine AB.u 3 rfl (by decide +kernel) (Dtu.mv (lk rfl)) rfl ?_
      refine AB.s 4 rfl (by decide +kernel) (by decide +kernel) (Stp.call rfl Try.call115 (lks rfl) (fun E' le hat => class_ok E' _) ?_) rfl
      rintro _ _ ⟨rfl, rfl⟩
      refine AB.u 5 rfl (by decide +kernel) (Dtu.cvt Try.underlying3 Try.underlying5 (lk rfl) rfl) rfl ?_
      refine AB.u 6 rfl (by decide +kernel) (Dtu.shl (lk rfl) (lk rfl) (by first | decide | omega) rfl) rfl ?_
      refine AB.u 7 rfl (by decide +kernel) (Dtu.bit rfl (lk rfl) (lk rfl) rfl) rfl ?_
      refine AB.u 8 rfl (by decide +kernel) (Dtu.ix (i := 0) Try.underlying32 Try.sizeOf5 (Sl.osl 0 rfl) (lk rfl) (lk rfl) (by omega) (by omega)) rfl ?_
      refine AB.e 9 rfl (by decide +kernel) (by decide +kernel) (Stp.storeM 0 Try.sizeOf5 rfl (lk rfl) (lk rfl) (fun _ => rfl) rfl (by omega) rfl ?_)
      refine AB.done (by decide +kernel) ?_
      refine Then.next ?_
      refine Body.seq ?_
      refine Body.region ?_
      refine Ops.u (Dtu.mv (lk rfl)) rfl ?_
      refine Ops.u (Dtu.asg (lk rfl)) rfl ?_
      refine Ops.u (Dtu.asg (lk rfl)) rfl ?_
      refine Ops.nil ?_
      refine Then.next ?_
      refine Body.ret ?_
      refine ⟨.inr rfl, _, pk [0] rfl, .inr ⟨hz, v13, rfl, ?_⟩⟩
      subst hsz
      rw [put_last v h0 hz]
end Go.Proofs.Ytijjjdljdjnbaaa
end
section
/- What a number's bytes are read as. -/
namespace Go.Proofs.Ytijjjdljdjnbaaa
set_option maxRecDepth 100000
set_option linter.unusedVariables false
set_option linter.unusedSimpArgs false
open Go.Sx

theorem ibit_or {k : IntKind} {x y : Int} (hx : 0 ≤ x) (hy : 0 ≤ y) (hx2 : x.toNat < 2 ^ k.bits) (hy2 : y.toNat < 2 ^ k.bits) : ibit .or k x y = k.wrap ((x.toNat ||| y.toNat : Nat) : Int) := by
  have e1 : BitVec.ofInt k.bits x = BitVec.ofNat k.bits x.toNat := by
    rw [← BitVec.ofInt_natCast, Int.toNat_of_nonneg hx]
  have e2 : BitVec.ofInt k.bits y = BitVec.ofNat k.bits y.toNat := by
    rw [← BitVec.ofInt_natCast, Int.toNat_of_nonneg hy]
  simp only [ibit, e1, e2, BitVec.toNat_or, BitVec.toNat_ofNat, Nat.mod_eq_of_lt hx2, Nat.mod_eq_of_lt hy2]
theorem or_byte {v c : Int} (hv : 0 ≤ v) (hv2 : v < 72057594037927936) (hc : 0 ≤ c) (hc2 : c < 256) : ibit .or .u64 (v * 256) c = v * 256 + c := by
  obtain ⟨n, rfl⟩ := Int.eq_ofNat_of_zero_le hv
  obtain ⟨d, rfl⟩ := Int.eq_ofNat_of_zero_le hc
  have h1 : ((n : Int) * 256).toNat = n <<< 8 := by rw [Nat.shiftLeft_eq]; omega
  have hn : n < 72057594037927936 := by omega
  rw [ibit_or (by omega) (by omega) (by simp [IntKind.bits]; omega) (by simp [IntKind.bits]; omega), h1, Int.toNat_natCast, ← Nat.shiftLeft_add_eq_or_of_lt (by omega : d < 2 ^ 8), Nat.shiftLeft_eq]
  rw [wu64 (by omega) (by omega)]
  omega
theorem and_63 : ∀ c : Fin 256, ibit .and .u8 (c.val : Int) 63 = (c.val : Int) % 64 := by decide +kernel
theorem shr_6 : ∀ c : Fin 256, (c.val : Int).fdiv (2 ^ (min (6 : Int).toNat IntKind.u8.bits)) = (((c.val / 64 : Nat)) : Int) := by decide +kernel
theorem one_shl : ∀ c : Fin 4, IntKind.i64.wrap (1 * 2 ^ (min ((c.val : Int)).toNat IntKind.i64.bits)) = ((2 ^ c.val : Nat) : Int) := by decide +kernel

theorem shl_8 {v : Int} (h0 : 0 ≤ v) (h1 : v < 72057594037927936) : IntKind.u64.wrap (v * 2 ^ (min (8 : Int).toNat IntKind.u64.bits)) = v * 256 := by
  have : (2 : Int) ^ (min (8 : Int).toNat IntKind.u64.bits) = 256 := by decide
  rw [this, wu64 (by omega) (by omega)]
/-- bytes -/
def Byt (bs : List Int) : Prop := ∀ i, i < bs.length → 0 ≤ bs[i]! ∧ bs[i]! < 256
def foldB (v : Int) (l : List Int) : Int := l.foldl (fun v c => v * 256 + c) v
theorem foldB_snoc (v : Int) (l : List Int) (c : Int) : foldB v (l ++ [c]) = foldB v l * 256 + c := by simp [foldB]
theorem take_snoc {l : List Int} {i : Nat} (h : i < l.length) : l.take (i + 1) = l.take i ++ [l[i]!] := by
  rw [List.take_succ_eq_append_getElem h, getElem!_pos l i h]
theorem pow256 {i : Nat} (h : i ≤ 6) : (64 : Int) * 256 ^ i ≤ 18014398509481984 := by
  have : i = 0 ∨ i = 1 ∨ i = 2 ∨ i = 3 ∨ i = 4 ∨ i = 5 ∨ i = 6 := by omega
  rcases this with rfl | rfl | rfl | rfl | rfl | rfl | rfl <;> decide
/-- how many bytes a beginning tells -/
def manyS (c : Int) : Nat := 2 ^ (c / 64).toNat
/-- a number, the place behind it, an error -/
def getS (bs : List Int) (p : Int) : Int × Int × Int :=
  if p < 0 ∨ (bs.length : Int) < p then (0, 0, 1)
  else if p = bs.length then (0, 0, 10)
  else if bs.length - p.toNat < manyS bs[p.toNat]! then (0, 0, 10)
  else
    let v := foldB (bs[p.toNat]! % 64) ((bs.drop (p.toNat + 1)).take (manyS bs[p.toNat]! - 1))
    if sizeS v ≠ manyS bs[p.toNat]! then (0, 0, 3) else (v, p + manyS bs[p.toNat]!, 0)

theorem get_ok (E : Env) (b : Value) (bs : List Int) (p : Int) (h : Sl E [] 1 b bs.length (bs.map (.int .u8))) (hb : Byt bs) : Does Try.prog 74 #[b, .int .i64 p] E [] fun r H' =>
    r = .tuple #[.int .u64 (getS bs p).1, .int .i64 (getS bs p).2.1, .int .i64 (getS bs p).2.2] ∧ H' = [] := by
  refine Does.pure h.len fun hlen => ?_
  refine Does.go (args := [b, .int .i64 p]) _ _ Try.func74 rfl Try.ntmps74 rfl rfl ?_
  refine Body.seq ?_
  refine Body.region ?_
  refine Ops.u (Dtu.asg (lk rfl)) rfl ?_
  refine Ops.u (Dtu.asg (lk rfl)) rfl ?_
  refine Ops.u (Dtu.asg (lk rfl)) rfl ?_
  refine Ops.nil ?_
  refine Then.next ?_
  refine Body.seq ?_
  refine Body.block ?_
  refine Body.seq ?_
  refine Body.region ?_
  refine Ops.u (Dtu.mv (lk rfl)) rfl ?_
  refine Ops.u (Dtu.lss (lk rfl) (lk rfl)) rfl ?_
  refine Ops.u (Dtu.mv (lk rfl)) rfl ?_
  refine Ops.decP 14 rfl (fun c14 => ?_) (fun c14 => ?_)
  · refine Ops.gn rfl rfl rfl rfl rfl ?_
    refine Ops.gn rfl rfl rfl rfl rfl ?_
    refine Ops.gn rfl rfl rfl rfl rfl ?_
    refine Ops.gn rfl rfl rfl rfl rfl ?_
    refine Ops.u (Dtu.pickT (lk rfl) (lk rfl)) rfl ?_
    refine Ops.u (Dtu.asg (lk rfl)) rfl ?_
    refine Ops.nil ?_
    refine Then.next ?_
    refine Body.condT (lk rfl) ?_
    refine Body.seq ?_
    refine Body.region ?_
    refine Ops.u (Dtu.asg (lk rfl)) rfl ?_
    refine Ops.u (Dtu.asg (lk rfl)) rfl ?_
    refine Ops.u (Dtu.asg (lk rfl)) rfl ?_
    refine Ops.nil ?_
    refine Then.next ?_
    refine Body.ret ?_
    refine Blk.ret ?_
    refine Then.ret ?_
    refine ⟨.inr rfl, _, pk [] rfl, ?_, rfl⟩
    unfold getS; rw [if_pos (.inl c14)]; rfl
  · refine Ops.gu rfl rfl rfl (Dtu.mv (lk rfl)) rfl ?_
    refine Ops.gu rfl rfl rfl (Dtu.mv (lk rfl)) rfl ?_
    refine Ops.gu rfl rfl rfl (Dtu.lenS Try.underlying32 (Sl.up h) (lk rfl)) rfl ?_
    refine Ops.gu rfl rfl rfl (Dtu.gtr (lk rfl) (lk rfl)) rfl ?_
    refine Ops.u (Dtu.pickF (lk rfl) (lk rfl)) rfl ?_
    refine Ops.u (Dtu.asg (lk rfl)) rfl ?_
    refine Ops.nil ?_
    refine Then.next ?_
    refine Body.condP (lk rfl) (fun c11 => ?_) (fun c11 => ?_)
    · refine Body.seq ?_
      refine Body.region ?_
      refine Ops.u (Dtu.asg (lk rfl)) rfl ?_
      refine Ops.u (Dtu.asg (lk rfl)) rfl ?_
      refine Ops.u (Dtu.asg (lk rfl)) rfl ?_
      refine Ops.nil ?_
      refine Then.next ?_
      refine Body.ret ?_
      refine Blk.ret ?_
      refine Then.ret ?_
      refine ⟨.inr rfl, _, pk [] rfl, ?_, rfl⟩
      unfold getS; rw [if_pos (.inr c11)]; rfl
    · refine Body.seq ?_
      refine Body.region ?_
      refine Ops.u (Dtu.mv (lk rfl)) rfl ?_
      refine Ops.u (Dtu.mv (lk rfl)) rfl ?_
      refine Ops.u (Dtu.lenS Try.underlying32 (Sl.up h) (lk rfl)) rfl ?_
      refine Ops.u (Dtu.eql (lk rfl) (lk rfl)) rfl ?_
      refine Ops.u (Dtu.asg (lk rfl)) rfl ?_
      refine Ops.nil ?_
      refine Then.next ?_
      refine Body.condP (lk rfl) (fun c20 => ?_) (fun c20 => ?_)
      · refine Body.seq ?_
        refine Body.region ?_
        refine Ops.u (Dtu.asg (lk rfl)) rfl ?_
        refine Ops.u (Dtu.asg (lk rfl)) rfl ?_
        refine Ops.u (Dtu.asg (lk rfl)) rfl ?_
        refine Ops.nil ?_
        refine Then.next ?_
        refine Body.ret ?_
        refine Blk.ret ?_
        refine Then.ret ?_
        refine ⟨.inr rfl, _, pk [] rfl, ?_, rfl⟩
        unfold getS; rw [if_neg (by omega), if_pos (by omega)]; rfl
      · obtain ⟨q, rfl⟩ := Int.eq_ofNat_of_zero_le (show 0 ≤ p by omega)
        have hq : q < bs.length := by omega
        obtain ⟨g0, g1⟩ := hb q hq
        obtain ⟨c, hc⟩ : ∃ c : Nat, bs[q]! = (c : Int) := ⟨_, (Int.toNat_of_nonneg g0).symm⟩
        have hc2 : c < 256 := by omega
        have hc4 : c / 64 < 4 := by omega
        have e1 : bs[q]!.fdiv (2 ^ (min (6 : Int).toNat IntKind.u8.bits)) = ((c / 64 : Nat) : Int) := by rw [hc]; exact shr_6 ⟨c, hc2⟩
        have e2 : IntKind.i64.wrap (1 * 2 ^ (min (((c / 64 : Nat) : Int)).toNat IntKind.i64.bits)) = ((2 ^ (c / 64) : Nat) : Int) := one_shl ⟨c / 64, hc4⟩
        have e3 : ibit .and .u8 bs[q]! 63 = (c : Int) % 64 := by rw [hc]; exact and_63 ⟨c, hc2⟩
        have em : manyS bs[q]! = 2 ^ (c / 64) := by unfold manyS; rw [hc]; congr 1
        have hm1 : 2 ^ (c / 64) ≤ 8 ∧ 1 ≤ 2 ^ (c / 64) := ⟨Nat.pow_le_pow_right (n := 2) (j := 3) (by omega) (by omega), Nat.one_le_two_pow⟩
        generalize hN : 2 ^ (c / 64) = N at *
        refine Body.skip ?_
        refine Blk.norm ?_
        refine Then.next ?_
        refine Body.seq ?_
        refine Body.region ?_
        refine Ops.u (Dtu.mv (lk rfl)) rfl ?_
        refine Ops.u (Dtu.mv (lk rfl)) rfl ?_
        refine Ops.u (Dtu.ix (i := (q)) Try.underlying32 Try.sizeOf5 (Sl.up h) (lk rfl) (lk rfl) (by omega) (by omega)) rfl ?_
        refine Ops.d (Det.ld Try.isAgg5 (lk rfl) (Rd.sl (Sl.up h) (gm (by omega)))) rfl ?_
        refine Ops.u (Dtu.shr (lk rfl) (lk rfl) (by first | decide | omega) (by with_reducible assumption)) rfl ?_
        refine Ops.u (Dtu.shl (lk rfl) (lk rfl) (by first | decide | omega) (by with_reducible assumption)) rfl ?_
        refine Ops.u (Dtu.asg (lk rfl)) rfl ?_
        refine Ops.nil ?_
        refine Then.next ?_
        refine Body.seq ?_
        refine Body.seq ?_
        refine Body.region ?_
        refine Ops.u (Dtu.mv (lk rfl)) rfl ?_
        refine Ops.u (Dtu.lenS Try.underlying32 (Sl.up h) (lk rfl)) rfl ?_
        refine Ops.u (Dtu.mv (lk rfl)) rfl ?_
        refine Ops.u (Dtu.sub (lk rfl) (lk rfl) (w64 (by omega) (by omega))) rfl ?_
        refine Ops.u (Dtu.mv (lk rfl)) rfl ?_
        refine Ops.u (Dtu.lss (lk rfl) (lk rfl)) rfl ?_
        refine Ops.nil ?_
        refine Then.next ?_
        refine Body.condP (lk rfl) (fun c36 => ?_) (fun c36 => ?_)
        · refine Body.seq ?_
          refine Body.region ?_
          refine Ops.u (Dtu.asg (lk rfl)) rfl ?_
          refine Ops.u (Dtu.asg (lk rfl)) rfl ?_
          refine Ops.u (Dtu.asg (lk rfl)) rfl ?_
          refine Ops.nil ?_
          refine Then.next ?_
          refine Body.ret ?_
          refine Then.ret ?_
          refine ⟨.inr rfl, _, pk [] rfl, ?_, rfl⟩
          unfold getS; rw [if_neg (by omega), if_neg (by omega), if_pos (by simp only [Int.toNat_natCast]; omega)]; rfl
        · have hs := h.subM (q + 1) (q + N) (by omega) (by omega)
          rw [show q + N - (q + 1) = N - 1 by omega] at hs
          have hyl : ((bs.drop (q + 1)).take (N - 1)).length = N - 1 := by simp; omega
          have hyb : ∀ i, i < N - 1 → 0 ≤ ((bs.drop (q + 1)).take (N - 1))[i]! ∧ ((bs.drop (q + 1)).take (N - 1))[i]! < 256 := fun i hi => by
            have := hb (q + 1 + i) (by omega)
            rw [getElem!_pos _ _ (by omega)] at this ⊢
            simpa [List.getElem_take, List.getElem_drop] using this
          have hget : getS bs (q : Int) = (let v := foldB ((c : Int) % 64) ((bs.drop (q + 1)).take (N - 1)); if sizeS v ≠ N then (0, 0, 3) else (v, (q : Int) + N, 0)) := by
            unfold getS
            rw [if_neg (by omega), if_neg (by omega), if_neg (by simp only [Int.toNat_natCast]; omega)]
            have em' := em
            rw [hc] at em'
            simp only [Int.toNat_natCast, hc, em']
          generalize hys : (bs.drop (q + 1)).take (N - 1) = ys at *
          refine Body.skip ?_
          refine Then.next ?_
          refine Body.seq ?_
          refine Body.region ?_
          refine Ops.u (Dtu.mv (lk rfl)) rfl ?_
          refine Ops.u (Dtu.mv (lk rfl)) rfl ?_
          refine Ops.u (Dtu.ix (i := (q)) Try.underlying32 Try.sizeOf5 (Sl.up h) (lk rfl) (lk rfl) (by omega) (by omega)) rfl ?_
          refine Ops.d (Det.ld Try.isAgg5 (lk rfl) (Rd.sl (Sl.up h) (gm (by omega)))) rfl ?_
          refine Ops.u (Dtu.bit rfl (lk rfl) (lk rfl) (by with_reducible assumption)) rfl ?_
          refine Ops.u (Dtu.cvt Try.underlying5 Try.underlying75 (lk rfl) (wu64 (by omega) (by omega))) rfl ?_
          refine Ops.u (Dtu.asg (lk rfl)) rfl ?_
          refine Ops.nil ?_
          refine Then.next ?_
          refine Body.seq ?_
          refine Body.seq ?_
          refine Body.region ?_
          refine Ops.u (Dtu.mv (lk rfl)) rfl ?_
          refine Ops.u (Dtu.mv (lk rfl)) rfl ?_
          refine Ops.u (Dtu.add (lk rfl) (lk rfl) (w64 (by omega) (by omega))) rfl ?_
          refine Ops.u (Dtu.mv (lk rfl)) rfl ?_
          refine Ops.u (Dtu.mv (lk rfl)) rfl ?_
          refine Ops.u (Dtu.add (lk rfl) (lk rfl) (w64 (by omega) (by omega))) rfl ?_
          refine Ops.u (Dtu.slLH (q + 1) (q + N) Try.underlying32 Try.sizeOf5 (Sl.up h) (lk rfl) (lk rfl) (lk rfl) (by omega) (by omega) (by omega) (by omega)) rfl ?_
          refine Ops.u (Dtu.lenS Try.underlying32 (Sl.up hs) (lk rfl)) rfl ?_
          refine Ops.u (Dtu.mv (lk rfl)) rfl ?_
          refine Ops.nil ?_
          refine Then.next ?_
          refine Body.block ?_
          refine Body.loopF (γ := Nat) rfl (fun i => [(51, .int .i64 i), (8, .int .u64 (foldB ((c : Int) % 64) (ys.take i)))]) (fun _ => []) (fun i => i ≤ N - 1 ∧ 0 ≤ foldB ((c : Int) % 64) (ys.take i) ∧ foldB ((c : Int) % 64) (ys.take i) < 64 * 256 ^ i) (fun i => N - 1 - i) 0
            ⟨by omega, by simp [foldB]; omega, by simp [foldB]; omega⟩ ⟨rfl, rfl, trivial⟩ rfl ?_
          rintro i u ⟨hi, hf0, hf1⟩
          refine Body.seq ?_
          refine Body.region ?_
          refine Ops.u (Dtu.lss (lk rfl) (lk rfl)) rfl ?_
          refine Ops.nil ?_
          refine Then.next ?_
          refine Body.seq ?_
          refine Body.condP (lk rfl) (fun c52 => ?_) (fun c52 => ?_)
          · have hi6 := pow256 (i := i) (by omega)
            obtain ⟨y0, y1⟩ := hyb i (by omega)
            have e4 := shl_8 hf0 (by omega)
            have e5 := or_byte hf0 (by omega) y0 y1
            refine Body.skip ?_
            refine Then.next ?_
            refine Body.seq ?_
            refine Body.block ?_
            refine Body.seq ?_
            refine Body.region ?_
            refine Ops.u (Dtu.ix (i := (i)) Try.underlying32 Try.sizeOf5 (Sl.up hs) (lk rfl) (lk rfl) (by omega) (by omega)) rfl ?_
            refine Ops.d (Det.ld Try.isAgg5 (lk rfl) (Rd.sl (Sl.up hs) (gm (by omega)))) rfl ?_
            refine Ops.u (Dtu.asg (lk rfl)) rfl ?_
            refine Ops.nil ?_
            refine Then.next ?_
            refine Body.region ?_
            refine Ops.u (Dtu.mv (lk rfl)) rfl ?_
            refine Ops.u (Dtu.shl (lk rfl) (lk rfl) (by first | decide | omega) (by with_reducible assumption)) rfl ?_
            refine Ops.u (Dtu.mv (lk rfl)) rfl ?_
            refine Ops.u (Dtu.cvt Try.underlying5 Try.underlying75 (lk rfl) (wu64 (by omega) (by omega))) rfl ?_
            refine Ops.u (Dtu.bit rfl (lk rfl) (lk rfl) (by with_reducible assumption)) rfl ?_
            refine Ops.u (Dtu.asg (lk rfl)) rfl ?_
            refine Ops.nil ?_
            refine Blk.norm ?_
            refine Then.next ?_
            refine Body.region ?_
            refine Ops.u (Dtu.add (lk rfl) (lk rfl) (w64 (by omega) (by omega))) rfl ?_
            refine Ops.u (Dtu.mv (lk rfl)) rfl ?_
            refine Ops.nil ?_
            have hsn : foldB ((c : Int) % 64) (ys.take (i + 1)) = foldB ((c : Int) % 64) (ys.take i) * 256 + ys[i]! := by rw [take_snoc (by omega), foldB_snoc]
            refine Round.goF (i + 1) rfl rfl rfl ⟨rfl, ?_, trivial⟩ rfl ⟨by omega, by omega, ?_⟩ (by omega)
            · rw [hsn]; rfl
            · rw [hsn, Int.pow_succ]; omega
          · obtain rfl : i = N - 1 := by omega
            have ht : ys.take (N - 1) = ys := List.take_of_length_le (by omega)
            rw [ht] at hf0 hf1
            simp only [ht]
            refine Body.exit ?_
            refine Then.exit ?_
            refine Round.exit ?_
            refine Blk.here ?_
            refine Then.next ?_
            refine Body.seq ?_
            refine Body.seq ?_
            refine Body.region ?_
            refine Ops.u (Dtu.mv (lk rfl)) rfl ?_
            refine Ops.s (Stp.call rfl Try.call114 (lks rfl) (fun E' le hat => size_ok E' _) ?_) rfl
            rintro _ _ ⟨rfl, rfl⟩
            refine Ops.u (Dtu.mv (lk rfl)) rfl ?_
            refine Ops.u (Dtu.neq (lk rfl) (lk rfl)) rfl ?_
            refine Ops.nil ?_
            refine Then.next ?_
            refine Body.condP (lk rfl) (fun c64 => ?_) (fun c64 => ?_)
            · refine Body.seq ?_
              refine Body.region ?_
              refine Ops.u (Dtu.asg (lk rfl)) rfl ?_
              refine Ops.u (Dtu.asg (lk rfl)) rfl ?_
              refine Ops.u (Dtu.asg (lk rfl)) rfl ?_
              refine Ops.nil ?_
              refine Then.next ?_
              refine Body.ret ?_
              refine Then.ret ?_
              refine ⟨.inr rfl, _, pk [] rfl, ?_, rfl⟩
              rw [hget]; dsimp only; rw [if_pos (by omega)]; rfl
            · refine Body.skip ?_
              refine Then.next ?_
              refine Body.seq ?_
              refine Body.region ?_
              refine Ops.u (Dtu.mv (lk rfl)) rfl ?_
              refine Ops.u (Dtu.mv (lk rfl)) rfl ?_
              refine Ops.u (Dtu.mv (lk rfl)) rfl ?_
              refine Ops.u (Dtu.add (lk rfl) (lk rfl) (w64 (by omega) (by omega))) rfl ?_
              refine Ops.u (Dtu.asg (lk rfl)) rfl ?_
              refine Ops.u (Dtu.asg (lk rfl)) rfl ?_
              refine Ops.u (Dtu.asg (lk rfl)) rfl ?_
              refine Ops.nil ?_
              refine Then.next ?_
              refine Body.ret ?_
              refine ⟨.inr rfl, _, pk [] rfl, ?_, rfl⟩
              rw [hget]; dsimp only; rw [if_neg (by omega)]; rfl
end Go.Proofs.Ytijjjdljdjnbaaa
end
section
/- The library's functions on slices, at this seat's types. -/
namespace Go.Proofs.Ytijjjdljdjnbaaa
set_option maxRecDepth 100000
set_option linter.unusedVariables false
set_option linter.unusedSimpArgs false
open Go.Sx

/-- slices.Clone at one type -/
theorem cloneC_ok (E : Env) (v : Value) (m : Nat) (vs : List Value) (h : Sl E [] 4 v m vs) (h1 : vs.all (·.oneCell') = true) (hb : m * 16 ≤ 140737488355328) : Does Try.prog 99 #[v] E [] fun r H' => H' = [osl 55 4 r m vs] ∧ IsSl r := by
  refine Does.go (args := [v]) _ _ Try.func99 rfl Try.ntmps99 rfl rfl ?_
  refine Body.seq ?_
  refine Body.region ?_
  refine Ops.u (Dtu.asg (lk rfl)) rfl ?_
  refine Ops.nil ?_
  refine Then.next ?_
  refine Body.seq ?_
  refine Body.seq ?_
  refine Body.region ?_
  refine Ops.u (Dtu.mv (lk rfl)) rfl ?_
  refine Ops.u (Dtu.nilS Try.underlying22 (Sl.up h) (lk rfl)) rfl ?_
  refine Ops.nil ?_
  refine Then.next ?_
  refine Body.cond (lk rfl) (fun c4 => ?_) (fun c4 => ?_)
  · refine Body.pure (h.nil0 c4) ?_
    rintro ⟨rfl, rfl⟩
    refine Body.seq ?_
    refine Body.region ?_
    refine Ops.u (Dtu.asg (lk rfl)) rfl ?_
    refine Ops.nil ?_
    refine Then.next ?_
    refine Body.ret ?_
    refine Then.ret ?_
    exact ⟨.inr rfl, _, fun w s => osl_nil (pk [] rfl w s), rfl, ⟨_, _, _, rfl⟩⟩
  · refine Body.pure h.len ?_
    rintro ⟨hl, hm⟩
    refine Body.skip ?_
    refine Then.next ?_
    refine Body.seq ?_
    refine Body.region ?_
    refine Ops.s (Stp.buildSlice0 Try.underlying22 ty55 (fun b5 => ?_)) rfl
    refine Ops.u (Dtu.mv (lk rfl)) rfl ?_
    refine Ops.s (Stp.appendNew Try.underlying22 ty55 rfl (lk rfl) (lk rfl) h.up h1 hb hm (fun v7 => ?_)) rfl
    refine Ops.pure (Sl.isSl (Sl.osl 0 rfl)) fun hsl => ?_
    refine Ops.u (Dtu.asg (lk rfl)) rfl ?_
    refine Ops.nil ?_
    refine Then.next ?_
    refine Body.ret ?_
    exact ⟨.inr rfl, _, pk [0] rfl, rfl, hsl⟩

theorem and_mask {a : Int} (h0 : 0 ≤ a) (h1 : a < 4294967296) : ibit .and .u64 a 4294967295 = a := by
  obtain ⟨n, rfl⟩ := Int.eq_ofNat_of_zero_le h0
  have e1 : BitVec.ofInt IntKind.u64.bits (n : Int) = BitVec.ofNat IntKind.u64.bits n := by rw [← BitVec.ofInt_natCast]
  have e2 : BitVec.ofInt IntKind.u64.bits (4294967295 : Int) = BitVec.ofNat IntKind.u64.bits 4294967295 := rfl
  simp only [ibit, e1, e2, BitVec.toNat_and, BitVec.toNat_ofNat]
  rw [Nat.mod_eq_of_lt (by simp [IntKind.bits]; omega), Nat.mod_eq_of_lt (by simp [IntKind.bits])]
  have : (4294967295 : Nat) = 2 ^ 32 - 1 := by decide
  rw [this, Nat.and_two_pow_sub_one_eq_mod, Nat.mod_eq_of_lt (by omega)]
  exact wu64 (by omega) (by omega)
theorem shr_32 {a : Int} (h0 : 0 ≤ a) : a.fdiv (2 ^ (min (32 : Int).toNat IntKind.u64.bits)) = a / 4294967296 := by
  have : (2 : Int) ^ (min (32 : Int).toNat IntKind.u64.bits) = 4294967296 := by decide
  rw [this, Int.fdiv_eq_ediv_of_nonneg _ (by omega)]
theorem mul64_ok (E : Env) (x y : Int) (hx : 0 ≤ x ∧ x < 4294967296) (hy : 0 ≤ y ∧ y < 4294967296) : Does Try.prog 134 #[.int .u64 x, .int .u64 y] E [] fun r H' => r = .tuple #[.int .u64 0, .int .u64 (x * y)] ∧ H' = [] := by
  have hxy : 0 ≤ x * y := Int.mul_nonneg hx.1 hy.1
  have hxy2 : x * y < 18446744073709551616 := by
    have : x * y ≤ 4294967295 * 4294967295 := Int.mul_le_mul (by omega) (by omega) hy.1 (by omega)
    omega
  have a1 := and_mask hx.1 hx.2
  have a2 := and_mask hy.1 hy.2
  have s1 : x.fdiv (2 ^ (min (32 : Int).toNat IntKind.u64.bits)) = 0 := by rw [shr_32 hx.1]; omega
  have s2 : y.fdiv (2 ^ (min (32 : Int).toNat IntKind.u64.bits)) = 0 := by rw [shr_32 hy.1]; omega
  have m1 := wu64 hxy (by omega)
  have z1 : IntKind.u64.wrap (0 * y) = 0 := by rw [Int.zero_mul]; rfl
  have z2 : IntKind.u64.wrap (x * 0) = 0 := by rw [Int.mul_zero]; rfl
  have z3 : IntKind.u64.wrap (0 * 0) = 0 := rfl
  have s3 : (x * y).fdiv (2 ^ (min (32 : Int).toNat IntKind.u64.bits)) = x * y / 4294967296 := shr_32 hxy
  have z4 : IntKind.u64.wrap (0 + x * y / 4294967296) = x * y / 4294967296 := by rw [Int.zero_add]; exact wu64 (by omega) (by omega)
  have a3 := and_mask (a := x * y / 4294967296) (by omega) (by omega)
  have s4 : (x * y / 4294967296).fdiv (2 ^ (min (32 : Int).toNat IntKind.u64.bits)) = 0 := by rw [shr_32 (by omega)]; omega
  have z5 : IntKind.u64.wrap (x * y / 4294967296 + 0) = x * y / 4294967296 := by rw [Int.add_zero]; exact wu64 (by omega) (by omega)
  have z6 : IntKind.u64.wrap (0 + 0) = 0 := rfl
  refine Does.go (args := [.int .u64 x, .int .u64 y]) _ _ Try.func134 rfl Try.ntmps134 rfl rfl ?_
  refine Body.seq ?_
  refine Body.region ?_
  refine Ops.u (Dtu.asg (lk rfl)) rfl ?_
  refine Ops.u (Dtu.asg (lk rfl)) rfl ?_
  refine Ops.nil ?_
  refine Then.next ?_
  refine Body.seq ?_
  refine Body.region ?_
  refine Ops.u (Dtu.mv (lk rfl)) rfl ?_
  refine Ops.u (Dtu.bit rfl (lk rfl) (lk rfl) (by with_reducible assumption)) rfl ?_
  refine Ops.u (Dtu.asg (lk rfl)) rfl ?_
  refine Ops.nil ?_
  refine Then.next ?_
  refine Body.seq ?_
  refine Body.region ?_
  refine Ops.u (Dtu.mv (lk rfl)) rfl ?_
  refine Ops.u (Dtu.shr (lk rfl) (lk rfl) (by first | decide | omega) (by with_reducible assumption)) rfl ?_
  refine Ops.u (Dtu.asg (lk rfl)) rfl ?_
  refine Ops.nil ?_
  refine Then.next ?_
  refine Body.seq ?_
  refine Body.region ?_
  refine Ops.u (Dtu.mv (lk rfl)) rfl ?_
  refine Ops.u (Dtu.bit rfl (lk rfl) (lk rfl) (by with_reducible assumption)) rfl ?_
  refine Ops.u (Dtu.asg (lk rfl)) rfl ?_
  refine Ops.nil ?_
  refine Then.next ?_
  refine Body.seq ?_
  refine Body.region ?_
  refine Ops.u (Dtu.mv (lk rfl)) rfl ?_
  refine Ops.u (Dtu.shr (lk rfl) (lk rfl) (by first | decide | omega) (by with_reducible assumption)) rfl ?_
  refine Ops.u (Dtu.asg (lk rfl)) rfl ?_
  refine Ops.nil ?_
  refine Then.next ?_
  refine Body.seq ?_
  refine Body.region ?_
  refine Ops.u (Dtu.mv (lk rfl)) rfl ?_
  refine Ops.u (Dtu.mv (lk rfl)) rfl ?_
  refine Ops.u (Dtu.mul (lk rfl) (lk rfl) (by with_reducible assumption)) rfl ?_
  refine Ops.u (Dtu.asg (lk rfl)) rfl ?_
  refine Ops.nil ?_
  refine Then.next ?_
  refine Body.seq ?_
  refine Body.region ?_
  refine Ops.u (Dtu.mv (lk rfl)) rfl ?_
  refine Ops.u (Dtu.mv (lk rfl)) rfl ?_
  refine Ops.u (Dtu.mul (lk rfl) (lk rfl) (by with_reducible assumption)) rfl ?_
  refine Ops.u (Dtu.mv (lk rfl)) rfl ?_
  refine Ops.u (Dtu.shr (lk rfl) (lk rfl) (by first | decide | omega) (by with_reducible assumption)) rfl ?_
  refine Ops.u (Dtu.add (lk rfl) (lk rfl) (by with_reducible assumption)) rfl ?_
  refine Ops.u (Dtu.asg (lk rfl)) rfl ?_
  refine Ops.nil ?_
  refine Then.next ?_
  refine Body.seq ?_
  refine Body.region ?_
  refine Ops.u (Dtu.mv (lk rfl)) rfl ?_
  refine Ops.u (Dtu.bit rfl (lk rfl) (lk rfl) (by with_reducible assumption)) rfl ?_
  refine Ops.u (Dtu.asg (lk rfl)) rfl ?_
  refine Ops.nil ?_
  refine Then.next ?_
  refine Body.seq ?_
  refine Body.region ?_
  refine Ops.u (Dtu.mv (lk rfl)) rfl ?_
  refine Ops.u (Dtu.shr (lk rfl) (lk rfl) (by first | decide | omega) (by with_reducible assumption)) rfl ?_
  refine Ops.u (Dtu.asg (lk rfl)) rfl ?_
  refine Ops.nil ?_
  refine Then.next ?_
  refine Body.seq ?_
  refine Body.region ?_
  refine Ops.u (Dtu.mv (lk rfl)) rfl ?_
  refine Ops.u (Dtu.mv (lk rfl)) rfl ?_
  refine Ops.u (Dtu.mv (lk rfl)) rfl ?_
  refine Ops.u (Dtu.mul (lk rfl) (lk rfl) (by with_reducible assumption)) rfl ?_
  refine Ops.u (Dtu.add (lk rfl) (lk rfl) (by with_reducible assumption)) rfl ?_
  refine Ops.u (Dtu.asg (lk rfl)) rfl ?_
  refine Ops.nil ?_
  refine Then.next ?_
  refine Body.seq ?_
  refine Body.region ?_
  refine Ops.u (Dtu.mv (lk rfl)) rfl ?_
  refine Ops.u (Dtu.mv (lk rfl)) rfl ?_
  refine Ops.u (Dtu.mul (lk rfl) (lk rfl) (by with_reducible assumption)) rfl ?_
  refine Ops.u (Dtu.mv (lk rfl)) rfl ?_
  refine Ops.u (Dtu.add (lk rfl) (lk rfl) (by with_reducible assumption)) rfl ?_
  refine Ops.u (Dtu.mv (lk rfl)) rfl ?_
  refine Ops.u (Dtu.shr (lk rfl) (lk rfl) (by first | decide | omega) (by with_reducible assumption)) rfl ?_
  refine Ops.u (Dtu.add (lk rfl) (lk rfl) (by with_reducible assumption)) rfl ?_
  refine Ops.u (Dtu.asg (lk rfl)) rfl ?_
  refine Ops.nil ?_
  refine Then.next ?_
  refine Body.seq ?_
  refine Body.region ?_
  refine Ops.u (Dtu.mv (lk rfl)) rfl ?_
  refine Ops.u (Dtu.mv (lk rfl)) rfl ?_
  refine Ops.u (Dtu.mul (lk rfl) (lk rfl) (by with_reducible assumption)) rfl ?_
  refine Ops.u (Dtu.asg (lk rfl)) rfl ?_
  refine Ops.nil ?_
  refine Then.next ?_
  refine Body.ret ?_
  exact ⟨.inr rfl, _, pk [] rfl, rfl, rfl⟩
theorem mul_ok (E : Env) (x y : Int) (hx : 0 ≤ x ∧ x < 4294967296) (hy : 0 ≤ y ∧ y < 4294967296) : Does Try.prog 116 #[.int .u64 x, .int .u64 y] E [] fun r H' => r = .tuple #[.int .u64 0, .int .u64 (x * y)] ∧ H' = [] := by
  have hxy : 0 ≤ x * y := Int.mul_nonneg hx.1 hy.1
  have hxy2 : x * y < 18446744073709551616 := by
    have : x * y ≤ 4294967295 * 4294967295 := Int.mul_le_mul (by omega) (by omega) hy.1 (by omega)
    omega
  refine Does.go (args := [.int .u64 x, .int .u64 y]) _ _ Try.func116 rfl Try.ntmps116 rfl rfl ?_
  refine Body.seq ?_
  refine Body.region ?_
  refine Ops.u (Dtu.asg (lk rfl)) rfl ?_
  refine Ops.u (Dtu.asg (lk rfl)) rfl ?_
  refine Ops.nil ?_
  refine Then.next ?_
  refine Body.seq ?_
  refine Body.condF (lk rfl) ?_
  refine Body.skip ?_
  refine Then.next ?_
  refine Body.seq ?_
  refine Body.region ?_
  refine Ops.u (Dtu.mv (lk rfl)) rfl ?_
  refine Ops.u (Dtu.mv (lk rfl)) rfl ?_
  refine Ops.s (Stp.call rfl Try.call134 (lks rfl) (fun E' le hat => mul64_ok E' _ _ hx hy) ?_) rfl
  rintro _ _ ⟨rfl, rfl⟩
  refine Ops.u (Dtu.mv (lk rfl)) rfl ?_
  refine Ops.u (Dtu.ext (lk rfl) rfl) rfl ?_
  refine Ops.u (Dtu.ext (lk rfl) rfl) rfl ?_
  refine Ops.u (Dtu.asg (lk rfl)) rfl ?_
  refine Ops.u (Dtu.asg (lk rfl)) rfl ?_
  refine Ops.nil ?_
  refine Then.next ?_
  refine Body.seq ?_
  refine Body.region ?_
  refine Ops.u (Dtu.mv (lk rfl)) rfl ?_
  refine Ops.u (Dtu.mv (lk rfl)) rfl ?_
  refine Ops.u (Dtu.asg (lk rfl)) rfl ?_
  refine Ops.u (Dtu.asg (lk rfl)) rfl ?_
  refine Ops.nil ?_
  refine Then.next ?_
  refine Body.ret ?_
  exact ⟨.inr rfl, _, pk [] rfl, rfl, rfl⟩

/-- slices.Repeat of one element -/
def repeatCB (c : List Value) : Bool → List Value
  | true => c
  | false => [.int .i32 0, .int .u8 0, .int .u32 0, .int .u32 0]
theorem repeatC_mix (n k : Nat) (hn : n ≤ k) : (List.replicate n true ++ List.replicate (k - n) false).take n ++ (((List.replicate n true ++ List.replicate (k - n) false).drop 0).take (n - 0)).take (Nat.min (n - 0) (k - n)) ++ (List.replicate n true ++ List.replicate (k - n) false).drop (n + Nat.min (n - 0) (k - n)) =
    List.replicate (n + Nat.min n (k - n)) true ++ List.replicate (k - (n + Nat.min n (k - n))) false := by
  have hm : Nat.min n (k - n) ≤ n := Nat.min_le_left _ _
  have hm2 : Nat.min n (k - n) ≤ k - n := Nat.min_le_right _ _
  simp only [Nat.sub_zero, List.drop_zero]
  generalize Nat.min n (k - n) = q at *
  rw [List.take_append_of_le_length (by simp), List.take_of_length_le (by simp), List.take_replicate, Nat.min_eq_left hm, List.drop_append]
  simp only [List.length_replicate, List.drop_replicate]
  rw [show n - (n + q) = 0 by omega, show n + q - n = q by omega, List.replicate_zero, List.nil_append, List.replicate_append_replicate, show k - n - q = k - (n + q) by omega]
theorem repeatC_ok (E : Env) (v : Value) (c : List Value) (k : Nat) (h : Sl E [] 4 v 1 c) (h1 : c.all (·.oneCell') = true) (hk : k < 4294967296) : Does Try.prog 75 #[v, .int .i64 k] E [] fun r H' => H' = [osl 55 4 r k (List.replicate k c).flatten] ∧ IsSl r := by
  refine Does.pure h.len fun hlen => ?_
  have hB : ∀ b, (repeatCB c b).length = 4 := fun b => by cases b <;> simp [repeatCB, hlen.1]
  have hB1 : ∀ b, (repeatCB c b).all (·.oneCell') = true := fun b => match b with
    | true => h1
    | false => rfl
  have h' : Sl E [] 4 v 1 ([true].flatMap (repeatCB c)) := by simpa [repeatCB] using h
  refine Does.go (args := [v, .int .i64 k]) _ _ Try.func75 rfl Try.ntmps75 rfl rfl ?_
  refine Body.seq ?_
  refine Body.region ?_
  refine Ops.u (Dtu.asg (lk rfl)) rfl ?_
  refine Ops.nil ?_
  refine Then.next ?_
  refine Body.seq ?_
  refine Body.seq ?_
  refine Body.region ?_
  refine Ops.u (Dtu.mv (lk rfl)) rfl ?_
  refine Ops.u (Dtu.lss (lk rfl) (lk rfl)) rfl ?_
  refine Ops.nil ?_
  refine Then.next ?_
  refine Body.condP (lk rfl) (fun hy => absurd hy (by first | omega | assumption | decide)) (fun _ => ?_)
  refine Body.skip ?_
  refine Then.next ?_
  refine Body.seq ?_
  refine Body.region ?_
  refine Ops.u (Dtu.mv (lk rfl)) rfl ?_
  refine Ops.u (Dtu.lenS Try.underlying22 (Sl.up h) (lk rfl)) rfl ?_
  refine Ops.u (Dtu.cvt Try.underlying3 Try.underlying180 (lk rfl) (wu64 (by omega) (by omega))) rfl ?_
  refine Ops.u (Dtu.mv (lk rfl)) rfl ?_
  refine Ops.u (Dtu.cvt Try.underlying3 Try.underlying180 (lk rfl) (wu64 (by omega) (by omega))) rfl ?_
  refine Ops.s (Stp.call rfl Try.call116 (lks rfl) (fun E' le hat => (mul_ok E' (↑(1 : Nat)) k (by omega) (by omega)).mono (fun r H' q => by rw [show (↑(1 : Nat) : Int) * (k : Int) = k by omega] at q; exact q)) ?_) rfl
  rintro _ _ ⟨rfl, rfl⟩
  refine Ops.u (Dtu.mv (lk rfl)) rfl ?_
  refine Ops.u (Dtu.ext (lk rfl) rfl) rfl ?_
  refine Ops.u (Dtu.ext (lk rfl) rfl) rfl ?_
  refine Ops.u (Dtu.asg (lk rfl)) rfl ?_
  refine Ops.u (Dtu.asg (lk rfl)) rfl ?_
  refine Ops.nil ?_
  refine Then.next ?_
  refine Body.seq ?_
  refine Body.seq ?_
  refine Body.region ?_
  refine Ops.u (Dtu.mv (lk rfl)) rfl ?_
  refine Ops.u (Dtu.gtr (lk rfl) (lk rfl)) rfl ?_
  refine Ops.u (Dtu.mv (lk rfl)) rfl ?_
  refine Ops.decP 23 rfl (fun hy => absurd hy (by first | omega | assumption | decide)) (fun _ => ?_)
  refine Ops.gu rfl rfl rfl (Dtu.mv (lk rfl)) rfl ?_
  refine Ops.gu rfl rfl rfl (Dtu.gtr (lk rfl) (lk rfl)) rfl ?_
  refine Ops.u (Dtu.pickF (lk rfl) (lk rfl)) rfl ?_
  refine Ops.nil ?_
  refine Then.next ?_
  refine Body.condP (lk rfl) (fun hy => absurd hy (by first | omega | assumption | decide)) (fun _ => ?_)
  refine Body.skip ?_
  refine Then.next ?_
  refine Body.seq ?_
  refine Body.region ?_
  refine Ops.u (Dtu.mv (lk rfl)) rfl ?_
  refine Ops.u (Dtu.cvt Try.underlying180 Try.underlying3 (lk rfl) (w64 (by omega) (by omega))) rfl ?_
  refine Ops.s (Stp.make (m := (k)) Try.underlying22 ty55 rfl (lk rfl) (lk rfl) (by omega) (by omega) (by omega) (fun v30 => ?_)) rfl
  refine Ops.u (Dtu.asg (lk rfl)) rfl ?_
  refine Ops.nil ?_
  refine Then.next ?_
  refine Body.seq ?_
  refine Body.region ?_
  refine Ops.u (Dtu.mv (lk rfl)) rfl ?_
  refine Ops.u (Dtu.mv (lk rfl)) rfl ?_
  rw [show (List.replicate k [.int .i32 0, .int .u8 0, .int .u32 0, .int .u32 0]).flatten = (List.replicate k false).flatMap (repeatCB c) from rep_flat (enc := repeatCB c) false k]
  refine Ops.s (Stp.copyF 0 hB Try.underlying22 Try.sizeOf55 rfl (lk rfl) (LiesIn.whole (Sl.osl 0 rfl)) (by omega) (lk rfl) h'.up hB1 rfl ?_) rfl
  refine Ops.u (Dtu.asg (lk rfl)) rfl ?_
  refine Ops.nil ?_
  refine Then.next ?_
  refine Body.seq ?_
  refine Body.block ?_
  refine Body.loopF (γ := Nat) rfl (fun n => [(8, .int .i64 n)]) (fun n => [osl 55 4 v30 k ((List.replicate n true ++ List.replicate (k - n) false).flatMap (repeatCB c))]) (fun n => n ≤ k ∧ (k = 0 ∨ 1 ≤ n)) (fun n => k - n) (Nat.min 1 k) ?_ ⟨rfl, trivial⟩ ?_ ?_
  · have := Nat.min_le_right 1 k
    refine ⟨this, ?_⟩
    by_cases hk0 : k = 0
    · exact .inl hk0
    · exact .inr (Nat.le_min.2 ⟨Nat.le_refl _, by omega⟩)
  · congr 2
    by_cases hk0 : k = 0
    · subst hk0; rfl
    · have : Nat.min 1 k = 1 := Nat.min_eq_left (by omega)
      rw [this]; simp
  · rintro n u ⟨hn, hn1⟩
    have hs := Sl.subF hB (E := E) (H := [osl 55 4 v30 k ((List.replicate n true ++ List.replicate (k - n) false).flatMap (repeatCB c))]) (Sl.osl 0 rfl) 0 n (by omega) (by omega)
    refine Body.seq ?_
    refine Body.seq ?_
    refine Body.region ?_
    refine Ops.u (Dtu.mv (lk rfl)) rfl ?_
    refine Ops.u (Dtu.mv (lk rfl)) rfl ?_
    refine Ops.u (Dtu.lenS Try.underlying22 (Sl.osl 0 rfl) (lk rfl)) rfl ?_
    refine Ops.u (Dtu.lss (lk rfl) (lk rfl)) rfl ?_
    refine Ops.nil ?_
    refine Then.next ?_
    refine Body.condP (lk rfl) (fun c37 => ?_) (fun c37 => ?_)
    · refine Body.skip ?_
      refine Then.next ?_
      refine Body.block ?_
      refine Body.draw mixed ?_
      refine AB.u 0 rfl (by decide +kernel) (Dtu.mv (lk rfl)) rfl ?_
      refine AB.u 1 rfl (by decide +kernel) (Dtu.mv (lk rfl)) rfl ?_
      refine AB.u 2 rfl (by decide +kernel) (Dtu.mv (lk rfl)) rfl ?_
      refine AB.u 3 rfl (by decide +kernel) (Dtu.slL (n) Try.underlying22 Try.sizeOf55 (Sl.osl 0 rfl) (lk rfl) (lk rfl) (by omega) (by omega)) rfl ?_
      refine AB.u 4 rfl (by decide +kernel) (Dtu.mv (lk rfl)) rfl ?_
      refine AB.u 5 rfl (by decide +kernel) (Dtu.mv (lk rfl)) rfl ?_
      refine AB.u 6 rfl (by decide +kernel) (Dtu.slH (n) Try.underlying22 Try.sizeOf55 (Sl.osl 0 rfl) (lk rfl) (lk rfl) (by omega) (by omega)) rfl ?_
      refine AB.s 7 rfl (by decide +kernel) (by decide +kernel) (Stp.copyF 0 hB Try.underlying22 Try.sizeOf55 rfl (lk rfl) (LiesIn.sub' (Sl.osl 0 rfl) (by omega) (by omega)) (by omega) (lk rfl) hs hB1 rfl ?_) rfl
      have hm : Nat.min (n - 0) (k - n) ≤ k - n := Nat.min_le_right _ _
      have hm2 : 1 ≤ Nat.min (n - 0) (k - n) := Nat.le_min.2 ⟨by omega, by omega⟩
      rw [repeatC_mix n k hn]
      rw [Nat.sub_zero] at *
      generalize Nat.min n (k - n) = q at *
      refine AB.u 8 rfl (by decide +kernel) (Dtu.add (lk rfl) (lk rfl) (w64 (by omega) (by omega))) rfl ?_
      refine AB.u 9 rfl (by decide +kernel) (Dtu.asg (lk rfl)) rfl ?_
      refine AB.done (by decide +kernel) ?_
      refine Blk.norm ?_
      exact Round.goF (n + q) rfl rfl rfl ⟨int_eq (by omega), trivial⟩ rfl ⟨by omega, by omega⟩ (by omega)
    · obtain rfl : n = k := by omega
      refine Body.pure (Sl.isSl (Sl.osl 0 rfl)) fun hsl => ?_
      refine Body.exit ?_
      refine Then.exit ?_
      refine Round.exit ?_
      refine Blk.here ?_
      refine Then.next ?_
      refine Body.seq ?_
      refine Body.region ?_
      refine Ops.u (Dtu.mv (lk rfl)) rfl ?_
      refine Ops.u (Dtu.asg (lk rfl)) rfl ?_
      refine Ops.nil ?_
      refine Then.next ?_
      refine Body.ret ?_
      refine ⟨.inr rfl, _, pk [0] rfl, ?_, hsl⟩
      rw [Nat.sub_self, List.replicate_zero, List.append_nil, ← rep_flat]; rfl

end Go.Proofs.Ytijjjdljdjnbaaa
end
section
/- A cell and a style: which may be, and their bytes. -/
namespace Go.Proofs.Ytijjjdljdjnbaaa
set_option maxRecDepth 100000
set_option linter.unusedVariables false
set_option linter.unusedSimpArgs false
open Go.Sx

def isPt (p : Int) : Bool := decide (0 ≤ p ∧ p ≤ 1114111 ∧ (p < 55296 ∨ 57343 < p))
def isCol (c : Int) : Bool := decide (c = 0 ∨ (16777216 ≤ c ∧ c ≤ 16777471) ∨ (33554432 ≤ c ∧ c < 50331648))
theorem bool_eq {a b : Bool} (h : a = true ↔ b = true) : Value.bool a = Value.bool b := by
  congr 1; cases a <;> cases b <;> simp_all
theorem utfIs_ok (E : Env) (p : Int) : Does Try.prog 107 #[.int .i32 p] E [] fun r H' => r = .bool (isPt p) ∧ H' = [] := by
  refine Does.go (args := [.int .i32 p]) _ _ Try.func107 rfl Try.ntmps107 rfl rfl ?_
  refine Body.seq ?_
  refine Body.region ?_
  refine Ops.u (Dtu.asg (lk rfl)) rfl ?_
  refine Ops.nil ?_
  refine Then.next ?_
  refine Body.seq ?_
  refine Body.region ?_
  refine Ops.u (Dtu.mv (lk rfl)) rfl ?_
  refine Ops.u (Dtu.geq (lk rfl) (lk rfl)) rfl ?_
  refine Ops.u (Dtu.mv (lk rfl)) rfl ?_
  refine Ops.decP 5 rfl (fun c5 => ?_) (fun c5 => ?_)
  · refine Ops.gu rfl rfl rfl (Dtu.mv (lk rfl)) rfl ?_
    refine Ops.gu rfl rfl rfl (Dtu.leq (lk rfl) (lk rfl)) rfl ?_
    refine Ops.u (Dtu.pickT (lk rfl) (lk rfl)) rfl ?_
    refine Ops.u (Dtu.mv (lk rfl)) rfl ?_
    refine Ops.decP 9 rfl (fun c9 => ?_) (fun c9 => ?_)
    · refine Ops.gu rfl rfl rfl (Dtu.mv (lk rfl)) rfl ?_
      refine Ops.gu rfl rfl rfl (Dtu.lss (lk rfl) (lk rfl)) rfl ?_
      refine Ops.gu rfl rfl rfl (Dtu.mv (lk rfl)) rfl ?_
      refine Ops.decP 12 rfl (fun c12 => ?_) (fun c12 => ?_)
      · refine Ops.gn rfl rfl rfl rfl rfl ?_
        refine Ops.gn rfl rfl rfl rfl rfl ?_
        refine Ops.gu rfl rfl rfl (Dtu.pickT (lk rfl) (lk rfl)) rfl ?_
        refine Ops.u (Dtu.pickT (lk rfl) (lk rfl)) rfl ?_
        refine Ops.u (Dtu.asg (lk rfl)) rfl ?_
        refine Ops.nil ?_
        refine Then.next ?_
        refine Body.ret ?_
        (refine ⟨.inr rfl, _, pk [] rfl, bool_eq ?_, rfl⟩; simp [isPt]; omega)
      · refine Ops.gu rfl rfl rfl (Dtu.mv (lk rfl)) rfl ?_
        refine Ops.gu rfl rfl rfl (Dtu.gtr (lk rfl) (lk rfl)) rfl ?_
        refine Ops.gu rfl rfl rfl (Dtu.pickF (lk rfl) (lk rfl)) rfl ?_
        refine Ops.u (Dtu.pickT (lk rfl) (lk rfl)) rfl ?_
        refine Ops.u (Dtu.asg (lk rfl)) rfl ?_
        refine Ops.nil ?_
        refine Then.next ?_
        refine Body.ret ?_
        (refine ⟨.inr rfl, _, pk [] rfl, bool_eq ?_, rfl⟩; simp [isPt]; omega)
    · refine Ops.gn rfl rfl rfl rfl rfl ?_
      refine Ops.gn rfl rfl rfl rfl rfl ?_
      refine Ops.gn rfl rfl rfl rfl rfl ?_
      refine Ops.gn rfl rfl rfl rfl rfl ?_
      refine Ops.gn rfl rfl rfl rfl rfl ?_
      refine Ops.gn rfl rfl rfl rfl rfl ?_
      refine Ops.u (Dtu.pickF (lk rfl) (lk rfl)) rfl ?_
      refine Ops.u (Dtu.asg (lk rfl)) rfl ?_
      refine Ops.nil ?_
      refine Then.next ?_
      refine Body.ret ?_
      (refine ⟨.inr rfl, _, pk [] rfl, bool_eq ?_, rfl⟩; simp [isPt]; omega)
  · refine Ops.gn rfl rfl rfl rfl rfl ?_
    refine Ops.gn rfl rfl rfl rfl rfl ?_
    refine Ops.u (Dtu.pickF (lk rfl) (lk rfl)) rfl ?_
    refine Ops.u (Dtu.mv (lk rfl)) rfl ?_
    refine Ops.gn rfl rfl rfl rfl rfl ?_
    refine Ops.gn rfl rfl rfl rfl rfl ?_
    refine Ops.gn rfl rfl rfl rfl rfl ?_
    refine Ops.gn rfl rfl rfl rfl rfl ?_
    refine Ops.gn rfl rfl rfl rfl rfl ?_
    refine Ops.gn rfl rfl rfl rfl rfl ?_
    refine Ops.u (Dtu.pickF (lk rfl) (lk rfl)) rfl ?_
    refine Ops.u (Dtu.asg (lk rfl)) rfl ?_
    refine Ops.nil ?_
    refine Then.next ?_
    refine Body.ret ?_
    (refine ⟨.inr rfl, _, pk [] rfl, bool_eq ?_, rfl⟩; simp [isPt]; omega)
theorem isColour_ok (E : Env) (c : Int) : Does Try.prog 127 #[.int .u32 c] E [] fun r H' => r = .bool (isCol c) ∧ H' = [] := by
  refine Does.go (args := [.int .u32 c]) _ _ Try.func127 rfl Try.ntmps127 rfl rfl ?_
  refine Body.seq ?_
  refine Body.region ?_
  refine Ops.u (Dtu.asg (lk rfl)) rfl ?_
  refine Ops.nil ?_
  refine Then.next ?_
  refine Body.seq ?_
  refine Body.region ?_
  refine Ops.u (Dtu.mv (lk rfl)) rfl ?_
  refine Ops.u (Dtu.eql (lk rfl) (lk rfl)) rfl ?_
  refine Ops.u (Dtu.mv (lk rfl)) rfl ?_
  refine Ops.decP 5 rfl (fun c5 => ?_) (fun c5 => ?_)
  · refine Ops.gn rfl rfl rfl rfl rfl ?_
    refine Ops.gn rfl rfl rfl rfl rfl ?_
    refine Ops.gn rfl rfl rfl rfl rfl ?_
    refine Ops.gn rfl rfl rfl rfl rfl ?_
    refine Ops.gn rfl rfl rfl rfl rfl ?_
    refine Ops.gn rfl rfl rfl rfl rfl ?_
    refine Ops.u (Dtu.pickT (lk rfl) (lk rfl)) rfl ?_
    refine Ops.u (Dtu.mv (lk rfl)) rfl ?_
    refine Ops.gn rfl rfl rfl rfl rfl ?_
    refine Ops.gn rfl rfl rfl rfl rfl ?_
    refine Ops.gn rfl rfl rfl rfl rfl ?_
    refine Ops.gn rfl rfl rfl rfl rfl ?_
    refine Ops.gn rfl rfl rfl rfl rfl ?_
    refine Ops.gn rfl rfl rfl rfl rfl ?_
    refine Ops.u (Dtu.pickT (lk rfl) (lk rfl)) rfl ?_
    refine Ops.u (Dtu.asg (lk rfl)) rfl ?_
    refine Ops.nil ?_
    refine Then.next ?_
    refine Body.ret ?_
    (refine ⟨.inr rfl, _, pk [] rfl, bool_eq ?_, rfl⟩; simp [isCol]; omega)
  · refine Ops.gu rfl rfl rfl (Dtu.mv (lk rfl)) rfl ?_
    refine Ops.gu rfl rfl rfl (Dtu.geq (lk rfl) (lk rfl)) rfl ?_
    refine Ops.gu rfl rfl rfl (Dtu.mv (lk rfl)) rfl ?_
    refine Ops.decP 8 rfl (fun c8 => ?_) (fun c8 => ?_)
    · refine Ops.gu rfl rfl rfl (Dtu.mv (lk rfl)) rfl ?_
      refine Ops.gu rfl rfl rfl (Dtu.leq (lk rfl) (lk rfl)) rfl ?_
      refine Ops.gu rfl rfl rfl (Dtu.pickT (lk rfl) (lk rfl)) rfl ?_
      refine Ops.u (Dtu.pickF (lk rfl) (lk rfl)) rfl ?_
      refine Ops.u (Dtu.mv (lk rfl)) rfl ?_
      refine Ops.decP 13 rfl (fun c13 => ?_) (fun c13 => ?_)
      · refine Ops.gn rfl rfl rfl rfl rfl ?_
        refine Ops.gn rfl rfl rfl rfl rfl ?_
        refine Ops.gn rfl rfl rfl rfl rfl ?_
        refine Ops.gn rfl rfl rfl rfl rfl ?_
        refine Ops.gn rfl rfl rfl rfl rfl ?_
        refine Ops.gn rfl rfl rfl rfl rfl ?_
        refine Ops.u (Dtu.pickT (lk rfl) (lk rfl)) rfl ?_
        refine Ops.u (Dtu.asg (lk rfl)) rfl ?_
        refine Ops.nil ?_
        refine Then.next ?_
        refine Body.ret ?_
        (refine ⟨.inr rfl, _, pk [] rfl, bool_eq ?_, rfl⟩; simp [isCol]; omega)
      · refine Ops.gu rfl rfl rfl (Dtu.mv (lk rfl)) rfl ?_
        refine Ops.gu rfl rfl rfl (Dtu.geq (lk rfl) (lk rfl)) rfl ?_
        refine Ops.gu rfl rfl rfl (Dtu.mv (lk rfl)) rfl ?_
        refine Ops.decP 16 rfl (fun c16 => ?_) (fun c16 => ?_)
        · refine Ops.gu rfl rfl rfl (Dtu.mv (lk rfl)) rfl ?_
          refine Ops.gu rfl rfl rfl (Dtu.lss (lk rfl) (lk rfl)) rfl ?_
          refine Ops.gu rfl rfl rfl (Dtu.pickT (lk rfl) (lk rfl)) rfl ?_
          refine Ops.u (Dtu.pickF (lk rfl) (lk rfl)) rfl ?_
          refine Ops.u (Dtu.asg (lk rfl)) rfl ?_
          refine Ops.nil ?_
          refine Then.next ?_
          refine Body.ret ?_
          (refine ⟨.inr rfl, _, pk [] rfl, bool_eq ?_, rfl⟩; simp [isCol]; omega)
        · refine Ops.gn rfl rfl rfl rfl rfl ?_
          refine Ops.gn rfl rfl rfl rfl rfl ?_
          refine Ops.gu rfl rfl rfl (Dtu.pickF (lk rfl) (lk rfl)) rfl ?_
          refine Ops.u (Dtu.pickF (lk rfl) (lk rfl)) rfl ?_
          refine Ops.u (Dtu.asg (lk rfl)) rfl ?_
          refine Ops.nil ?_
          refine Then.next ?_
          refine Body.ret ?_
          (refine ⟨.inr rfl, _, pk [] rfl, bool_eq ?_, rfl⟩; simp [isCol]; omega)
    · refine Ops.gn rfl rfl rfl rfl rfl ?_
      refine Ops.gn rfl rfl rfl rfl rfl ?_
      refine Ops.gu rfl rfl rfl (Dtu.pickF (lk rfl) (lk rfl)) rfl ?_
      refine Ops.u (Dtu.pickF (lk rfl) (lk rfl)) rfl ?_
      refine Ops.u (Dtu.mv (lk rfl)) rfl ?_
      refine Ops.gu rfl rfl rfl (Dtu.mv (lk rfl)) rfl ?_
      refine Ops.gu rfl rfl rfl (Dtu.geq (lk rfl) (lk rfl)) rfl ?_
      refine Ops.gu rfl rfl rfl (Dtu.mv (lk rfl)) rfl ?_
      refine Ops.decP 16 rfl (fun hy => absurd hy (by first | omega | assumption | decide)) (fun _ => ?_)
      refine Ops.gn rfl rfl rfl rfl rfl ?_
      refine Ops.gn rfl rfl rfl rfl rfl ?_
      refine Ops.gu rfl rfl rfl (Dtu.pickF (lk rfl) (lk rfl)) rfl ?_
      refine Ops.u (Dtu.pickF (lk rfl) (lk rfl)) rfl ?_
      refine Ops.u (Dtu.asg (lk rfl)) rfl ?_
      refine Ops.nil ?_
      refine Then.next ?_
      refine Body.ret ?_
      (refine ⟨.inr rfl, _, pk [] rfl, bool_eq ?_, rfl⟩; simp [isCol]; omega)
structure Cell where
  pt : Int
  fl : Int
  fg : Int
  bg : Int
  deriving DecidableEq, Inhabited
def Cell.enc (c : Cell) : List Value := [.int .i32 c.pt, .int .u8 c.fl, .int .u32 c.fg, .int .u32 c.bg]
def Cell.style (c : Cell) : List Value := [.int .u8 c.fl, .int .u32 c.fg, .int .u32 c.bg]
/-- what a cell's memory may hold -/
def Cell.In (c : Cell) : Prop := 0 ≤ c.fl ∧ c.fl < 256 ∧ 0 ≤ c.fg ∧ c.fg < 4294967296 ∧ 0 ≤ c.bg ∧ c.bg < 4294967296
def okSty (fg bg : Int) : Bool := isCol fg && isCol bg
def okCell (pt fg bg : Int) : Bool := isPt pt && okSty fg bg
abbrev Cell.okStyle (c : Cell) : Bool := okSty c.fg c.bg
abbrev Cell.ok (c : Cell) : Bool := okCell c.pt c.fg c.bg
theorem styleRight_ok (E : Env) (fl fg bg : Int) : Does Try.prog 108 #[.agg #[.int .u8 fl, .int .u32 fg, .int .u32 bg]] E [] fun r H' => r = .bool (okSty fg bg) ∧ H' = [] := by
  refine Does.go (args := [.agg #[.int .u8 fl, .int .u32 fg, .int .u32 bg]]) _ _ Try.func108 rfl Try.ntmps108 rfl rfl ?_
  refine Body.seq ?_
  refine Body.region ?_
  refine Ops.s (Stp.box (lk rfl) rfl (fun b1 => ?_)) rfl
  refine Ops.u (Dtu.asg (lk rfl)) rfl ?_
  refine Ops.nil ?_
  refine Then.next ?_
  refine Body.seq ?_
  refine Body.region ?_
  refine Ops.u (Dtu.fld fa53_1 (lk rfl)) rfl ?_
  refine Ops.d (Det.ld Try.isAgg51 (lk rfl) (Rd.ow 0 rfl rfl)) rfl ?_
  refine Ops.s (Stp.call rfl Try.call127 (lks rfl) (fun E' le hat => isColour_ok E' _) ?_) rfl
  rintro _ _ ⟨rfl, rfl⟩
  refine Ops.u (Dtu.mv (lk rfl)) rfl ?_
  refine Ops.dec 6 rfl (fun c6 => ?_) (fun c6 => ?_)
  · refine Ops.gu rfl rfl rfl (Dtu.fld fa53_2 (lk rfl)) rfl ?_
    refine Ops.gd rfl rfl rfl (Det.ld Try.isAgg51 (lk rfl) (Rd.ow 0 rfl rfl)) rfl ?_
    refine Ops.gs rfl rfl rfl (Stp.call rfl Try.call127 (lks rfl) (fun E' le hat => isColour_ok E' _) ?_) rfl
    rintro _ _ ⟨rfl, rfl⟩
    refine Ops.u (Dtu.pickT (lk rfl) (lk rfl)) rfl ?_
    refine Ops.u (Dtu.asg (lk rfl)) rfl ?_
    refine Ops.nil ?_
    refine Then.next ?_
    refine Body.ret ?_
    (refine ⟨.inr rfl, _, pk [] rfl, bool_eq ?_, rfl⟩; simp [okSty, *])
  · refine Ops.gn rfl rfl rfl rfl rfl ?_
    refine Ops.gn rfl rfl rfl rfl rfl ?_
    refine Ops.gn rfl rfl rfl rfl rfl ?_
    refine Ops.u (Dtu.pickF (lk rfl) (lk rfl)) rfl ?_
    refine Ops.u (Dtu.asg (lk rfl)) rfl ?_
    refine Ops.nil ?_
    refine Then.next ?_
    refine Body.ret ?_
    (refine ⟨.inr rfl, _, pk [] rfl, bool_eq ?_, rfl⟩; simp [okSty, *])
theorem isCell_ok (E : Env) (pt fl fg bg : Int) : Does Try.prog 70 #[.agg #[.int .i32 pt, .int .u8 fl, .int .u32 fg, .int .u32 bg]] E [] fun r H' => r = .bool (okCell pt fg bg) ∧ H' = [] := by
  refine Does.go (args := [.agg #[.int .i32 pt, .int .u8 fl, .int .u32 fg, .int .u32 bg]]) _ _ Try.func70 rfl Try.ntmps70 rfl rfl ?_
  refine Body.seq ?_
  refine Body.region ?_
  refine Ops.s (Stp.box (lk rfl) rfl (fun b1 => ?_)) rfl
  refine Ops.u (Dtu.asg (lk rfl)) rfl ?_
  refine Ops.nil ?_
  refine Then.next ?_
  refine Body.seq ?_
  refine Body.region ?_
  refine Ops.u (Dtu.fld fa55_0 (lk rfl)) rfl ?_
  refine Ops.d (Det.ld Try.isAgg21 (lk rfl) (Rd.ow 0 rfl rfl)) rfl ?_
  refine Ops.s (Stp.call rfl Try.call107 (lks rfl) (fun E' le hat => utfIs_ok E' _) ?_) rfl
  rintro _ _ ⟨rfl, rfl⟩
  refine Ops.u (Dtu.mv (lk rfl)) rfl ?_
  refine Ops.dec 6 rfl (fun c6 => ?_) (fun c6 => ?_)
  · refine Ops.gu rfl rfl rfl (Dtu.fld fa55_1 (lk rfl)) rfl ?_
    refine Ops.gd rfl rfl rfl (Det.lda Try.isAgg53 Try.sizeOf53 (lk rfl) (Rds.ow (m := 3) 0 rfl rfl) rfl) rfl ?_
    refine Ops.gs rfl rfl rfl (Stp.call rfl Try.call108 (lks rfl) (fun E' le hat => styleRight_ok E' _ _ _) ?_) rfl
    rintro _ _ ⟨rfl, rfl⟩
    refine Ops.u (Dtu.pickT (lk rfl) (lk rfl)) rfl ?_
    refine Ops.u (Dtu.asg (lk rfl)) rfl ?_
    refine Ops.nil ?_
    refine Then.next ?_
    refine Body.ret ?_
    (refine ⟨.inr rfl, _, pk [] rfl, bool_eq ?_, rfl⟩; simp [okCell, *])
  · refine Ops.gn rfl rfl rfl rfl rfl ?_
    refine Ops.gn rfl rfl rfl rfl rfl ?_
    refine Ops.gn rfl rfl rfl rfl rfl ?_
    refine Ops.u (Dtu.pickF (lk rfl) (lk rfl)) rfl ?_
    refine Ops.u (Dtu.asg (lk rfl)) rfl ?_
    refine Ops.nil ?_
    refine Then.next ?_
    refine Body.ret ?_
    (refine ⟨.inr rfl, _, pk [] rfl, bool_eq ?_, rfl⟩; simp [okCell, *])
end Go.Proofs.Ytijjjdljdjnbaaa
end
section
/- Views: which may be. -/
namespace Go.Proofs.Ytijjjdljdjnbaaa
set_option maxRecDepth 100000
set_option linter.unusedVariables false
set_option linter.unusedSimpArgs false
open Go.Sx

/-- the first place at which p holds; -1: nowhere -/
def firstAt {α : Type} (p : α → Bool) (l : List α) : Int := match l.findIdx? p with
  | some i => i
  | none => -1
theorem firstAt_some {α : Type} [Inhabited α] {p : α → Bool} {l : List α} {i : Nat} (h : i < l.length) (h1 : p l[i]! = true) (h2 : ∀ j, j < i → p l[j]! = false) : firstAt p l = i := by
  have : l.findIdx? p = some i := by
    rw [List.findIdx?_eq_some_iff_getElem]
    refine ⟨h, by rw [getElem!_pos l i h] at h1; exact h1, fun j hj => ?_⟩
    have := h2 j hj
    rw [getElem!_pos l j (by omega)] at this
    simp [this]
  simp [firstAt, this]
theorem firstAt_none {α : Type} [Inhabited α] {p : α → Bool} {l : List α} (h2 : ∀ j, j < l.length → p l[j]! = false) : firstAt p l = -1 := by
  have : l.findIdx? p = none := by
    rw [List.findIdx?_eq_none_iff]
    intro x hx
    obtain ⟨j, hj, rfl⟩ := List.getElem_of_mem hx
    have := h2 j hj
    rwa [getElem!_pos l j hj] at this
  simp [firstAt, this]
theorem firstAt_any {α : Type} (p : α → Bool) (l : List α) : decide (0 ≤ firstAt p l) = l.any p := by
  cases h : l.findIdx? p with
  | none =>
    rw [List.findIdx?_eq_none_iff] at h
    have : l.any p = false := by simpa using h
    simp [firstAt, List.findIdx?_eq_none_iff.2 h, this]
  | some i =>
    have h' := h
    rw [List.findIdx?_eq_some_iff_getElem] at h
    obtain ⟨hi, h1, _⟩ := h
    have : l.any p = true := by rw [List.any_eq_true]; exact ⟨_, List.getElem_mem hi, h1⟩
    simp [firstAt, h', this]
theorem indexC_ok (E : Env) (s : Value) (cs : List Cell) (p : Cell → Bool) (fn : FuncId) (hcall : ∀ args w, (callFunc fn args).run Try.prog w = .ok (.enter fn args) w) (hp : ∀ E c, Does Try.prog fn #[.agg c.enc.toArray] E [] fun r H' => r = .bool (p c) ∧ H' = [])
    (h : Sl E [] 4 s cs.length (cs.flatMap Cell.enc)) : Does Try.prog 106 #[s, .func (.func fn) #[] #[]] E [] fun r H' => r = .int .i64 (firstAt p cs) ∧ H' = [] := by
  refine Does.pure h.len fun hlen => ?_
  refine Does.go (args := [s, .func (.func fn) #[] #[]]) _ _ Try.func106 rfl Try.ntmps106 rfl rfl ?_
  refine Body.seq ?_
  refine Body.region ?_
  refine Ops.u (Dtu.asg (lk rfl)) rfl ?_
  refine Ops.nil ?_
  refine Then.next ?_
  refine Body.seq ?_
  refine Body.seq ?_
  refine Body.region ?_
  refine Ops.u (Dtu.mv (lk rfl)) rfl ?_
  refine Ops.u (Dtu.lenS Try.underlying22 (Sl.up h) (lk rfl)) rfl ?_
  refine Ops.u (Dtu.mv (lk rfl)) rfl ?_
  refine Ops.nil ?_
  refine Then.next ?_
  refine Body.block ?_
  refine Body.loopF (γ := Nat) rfl (fun k => [(8, .int .i64 k)]) (fun _ => []) (fun k => k ≤ cs.length ∧ ∀ j, j < k → p cs[j]! = false) (fun k => cs.length - k) 0 ⟨by omega, fun j hj => by omega⟩ ⟨rfl, trivial⟩ rfl ?_
  rintro k u ⟨hk, hb⟩
  refine Body.seq ?_
  refine Body.region ?_
  refine Ops.u (Dtu.lss (lk rfl) (lk rfl)) rfl ?_
  refine Ops.nil ?_
  refine Then.next ?_
  refine Body.seq ?_
  refine Body.condP (lk rfl) (fun c9 => ?_) (fun c9 => ?_)
  · refine Body.skip ?_
    refine Then.next ?_
    refine Body.seq ?_
    refine Body.block ?_
    refine Body.seq ?_
    refine Body.region ?_
    refine Ops.u (Dtu.mv (lk rfl)) rfl ?_
    refine Ops.u (Dtu.asg (lk rfl)) rfl ?_
    refine Ops.nil ?_
    refine Then.next ?_
    refine Body.seq ?_
    refine Body.region ?_
    refine Ops.u (Dtu.mv (lk rfl)) rfl ?_
    refine Ops.u (Dtu.mv (lk rfl)) rfl ?_
    refine Ops.u (Dtu.mv (lk rfl)) rfl ?_
    refine Ops.u (Dtu.ix (i := (k)) Try.underlying22 Try.sizeOf55 (Sl.up h) (lk rfl) (lk rfl) (by omega) (by omega)) rfl ?_
    refine Ops.d (Det.lda Try.isAgg55 Try.sizeOf55 (lk rfl) (Rds.sl (Sl.up h) (gf (sz := 4) (fun _ => rfl) (by omega))) rfl) rfl ?_
    refine Ops.s (Stp.call rfl hcall (lks rfl) (fun E' le hat => hp E' cs[k]!) ?_) rfl
    rintro _ _ ⟨rfl, rfl⟩
    refine Ops.nil ?_
    refine Then.next ?_
    refine Body.cond (lk rfl) (fun c16 => ?_) (fun c16 => ?_)
    · refine Body.seq ?_
      refine Body.region ?_
      refine Ops.u (Dtu.mv (lk rfl)) rfl ?_
      refine Ops.u (Dtu.asg (lk rfl)) rfl ?_
      refine Ops.nil ?_
      refine Then.next ?_
      refine Body.ret ?_
      refine Blk.ret ?_
      refine Then.ret ?_
      refine Round.ret ?_
      refine Blk.ret ?_
      refine Then.ret ?_
      exact ⟨.inr rfl, _, pk [] rfl, by rw [firstAt_some (by omega) c16 hb]; rfl, rfl⟩
    · refine Body.skip ?_
      refine Blk.norm ?_
      refine Then.next ?_
      refine Body.region ?_
      refine Ops.u (Dtu.add (lk rfl) (lk rfl) (w64 (by omega) (by omega))) rfl ?_
      refine Ops.u (Dtu.mv (lk rfl)) rfl ?_
      refine Ops.nil ?_
      refine Round.goF (k + 1) rfl rfl rfl ⟨int_eq (by omega), trivial⟩ rfl ⟨by omega, fun j hj => ?_⟩ (by omega)
      by_cases e : j = k
      · subst e; exact c16
      · exact hb j (by omega)
  · refine Body.exit ?_
    refine Then.exit ?_
    refine Round.exit ?_
    refine Blk.here ?_
    refine Then.next ?_
    refine Body.seq ?_
    refine Body.region ?_
    refine Ops.u (Dtu.asg (lk rfl)) rfl ?_
    refine Ops.nil ?_
    refine Then.next ?_
    refine Body.ret ?_
    exact ⟨.inr rfl, _, pk [] rfl, by rw [firstAt_none (fun j hj => hb j (by omega))]; rfl, rfl⟩
theorem containsC_ok (E : Env) (s : Value) (cs : List Cell) (p : Cell → Bool) (fn : FuncId) (hcall : ∀ args w, (callFunc fn args).run Try.prog w = .ok (.enter fn args) w) (hp : ∀ E c, Does Try.prog fn #[.agg c.enc.toArray] E [] fun r H' => r = .bool (p c) ∧ H' = [])
    (h : Sl E [] 4 s cs.length (cs.flatMap Cell.enc)) : Does Try.prog 68 #[s, .func (.func fn) #[] #[]] E [] fun r H' => r = .bool (cs.any p) ∧ H' = [] := by
  refine Does.go (args := [s, .func (.func fn) #[] #[]]) _ _ Try.func68 rfl Try.ntmps68 rfl rfl ?_
  refine Body.seq ?_
  refine Body.region ?_
  refine Ops.u (Dtu.asg (lk rfl)) rfl ?_
  refine Ops.nil ?_
  refine Then.next ?_
  refine Body.seq ?_
  refine Body.region ?_
  refine Ops.u (Dtu.mv (lk rfl)) rfl ?_
  refine Ops.u (Dtu.mv (lk rfl)) rfl ?_
  refine Ops.s (Stp.call rfl Try.call106 (lks rfl) (fun E' le hat => indexC_ok E' s cs p fn hcall hp (h.mono le)) ?_) rfl
  rintro _ _ ⟨rfl, rfl⟩
  refine Ops.u (Dtu.geq (lk rfl) (lk rfl)) rfl ?_
  refine Ops.u (Dtu.asg (lk rfl)) rfl ?_
  refine Ops.nil ?_
  refine Then.next ?_
  refine Body.ret ?_
  exact ⟨.inr rfl, _, pk [] rfl, by rw [← firstAt_any]; rfl, rfl⟩
theorem right1_ok (E : Env) (c : Cell) : Does Try.prog 69 #[.agg c.enc.toArray] E [] fun r H' => r = .bool (!c.ok) ∧ H' = [] := by
  refine Does.go (args := [.agg c.enc.toArray]) _ _ Try.func69 rfl Try.ntmps69 rfl rfl ?_
  refine Body.seq ?_
  refine Body.region ?_
  refine Ops.s (Stp.box (lk rfl) rfl (fun b1 => ?_)) rfl
  refine Ops.u (Dtu.asg (lk rfl)) rfl ?_
  refine Ops.nil ?_
  refine Then.next ?_
  refine Body.seq ?_
  refine Body.region ?_
  refine Ops.d (Det.lda Try.isAgg55 Try.sizeOf55 (lk rfl) (Rds.ow (m := 4) 0 rfl rfl) rfl) rfl ?_
  refine Ops.s (Stp.call rfl Try.call70 (lks rfl) (fun E' le hat => isCell_ok E' _ _ _ _) ?_) rfl
  rintro _ _ ⟨rfl, rfl⟩
  refine Ops.u (Dtu.not (lk rfl)) rfl ?_
  refine Ops.u (Dtu.asg (lk rfl)) rfl ?_
  refine Ops.nil ?_
  refine Then.next ?_
  refine Body.ret ?_
  exact ⟨.inr rfl, _, pk [] rfl, rfl, rfl⟩

structure View where
  rows : Int
  cols : Int
  cells : List Cell
  row : Int
  col : Int
  vis : Bool
  deriving DecidableEq, Inhabited
def View.val (v : View) (s : Value) : Value := .agg #[.int .i64 v.rows, .int .i64 v.cols, s, .int .i64 v.row, .int .i64 v.col, .bool v.vis]
def View.has (v : View) (E : Env) (H : List HProp) (s : Value) : Prop := Sl E H 4 s v.cells.length (v.cells.flatMap Cell.enc)
def View.fits (v : View) : Prop := (1 ≤ v.rows ∧ v.rows ≤ 12 ∧ 1 ≤ v.cols ∧ v.cols ≤ 40) ∧ 0 ≤ v.row ∧ v.row < v.rows ∧ 0 ≤ v.col ∧ v.col < v.cols ∧ (v.cells.length : Int) = v.rows * v.cols
instance (v : View) : Decidable v.fits := by unfold View.fits; infer_instance
def View.ok (v : View) : Bool := decide v.fits && v.cells.all Cell.ok
theorem mul_bound {a b : Int} (h : 1 ≤ a ∧ a ≤ 12 ∧ 1 ≤ b ∧ b ≤ 40) : 1 ≤ a * b ∧ a * b ≤ 480 :=
  ⟨by have := Int.mul_le_mul h.1 h.2.2.1 (by omega) (by omega : (0:Int) ≤ a); omega, by have := Int.mul_le_mul h.2.1 h.2.2.2 (by omega) (by omega : (0:Int) ≤ 12); omega⟩
theorem wrap_rc {a b : Int} (h : 1 ≤ a ∧ a ≤ 12 ∧ 1 ≤ b ∧ b ≤ 40) : IntKind.i64.wrap (a * b) = a * b := w64 (by have := mul_bound h; omega) (by have := mul_bound h; omega)
theorem View.fits_w {v : View} : v.fits ↔ ((1 ≤ v.rows ∧ v.rows ≤ 12 ∧ 1 ≤ v.cols ∧ v.cols ≤ 40) ∧ 0 ≤ v.row ∧ v.row < v.rows ∧ 0 ≤ v.col ∧ v.col < v.cols ∧ (v.cells.length : Int) = IntKind.i64.wrap (v.rows * v.cols)) := by
  unfold View.fits
  constructor <;> rintro ⟨h, r⟩ <;> refine ⟨h, ?_⟩ <;> have := wrap_rc h <;> omega
theorem View.ok_no {v : View} (h : ¬ v.fits) : v.ok = false := by simp [View.ok, h]
theorem View.ok_yes {v : View} (h : v.fits) : v.ok = !(v.cells.any fun c => !c.ok) := by simp [View.ok, h, List.any_eq_not_all_not]
theorem right_ok (E : Env) (v : View) (s : Value) (h : v.has E [] s) : Does Try.prog 25 #[v.val s] E [] fun r H' => r = .bool v.ok ∧ H' = [] := by
  unfold View.has at h
  refine Does.pure h.len fun hlen => ?_
  refine Does.pure h.isSl fun hsl => ?_
  refine Does.go (args := [v.val s]) _ _ Try.func25 rfl Try.ntmps25 rfl rfl ?_
  refine Body.seq ?_
  refine Body.region ?_
  refine Ops.s (Stp.box (lk rfl) rfl (fun b1 => ?_)) rfl
  refine Ops.u (Dtu.asg (lk rfl)) rfl ?_
  refine Ops.nil ?_
  refine Then.next ?_
  refine Body.seq ?_
  refine Body.block ?_
  refine Body.seq ?_
  refine Body.region ?_
  refine Ops.u (Dtu.fld fa24_0 (lk rfl)) rfl ?_
  refine Ops.d (Det.ld Try.isAgg3 (lk rfl) (Rd.ow 0 rfl rfl)) rfl ?_
  refine Ops.u (Dtu.lss (lk rfl) (lk rfl)) rfl ?_
  refine Ops.u (Dtu.mv (lk rfl)) rfl ?_
  refine Ops.decP 7 rfl (fun c7 => ?_) (fun c7 => ?_)
  · refine Ops.gn rfl rfl rfl rfl rfl ?_
    refine Ops.gn rfl rfl rfl rfl rfl ?_
    refine Ops.gn rfl rfl rfl rfl rfl ?_
    refine Ops.u (Dtu.pickT (lk rfl) (lk rfl)) rfl ?_
    refine Ops.u (Dtu.mv (lk rfl)) rfl ?_
    refine Ops.gn rfl rfl rfl rfl rfl ?_
    refine Ops.gn rfl rfl rfl rfl rfl ?_
    refine Ops.gn rfl rfl rfl rfl rfl ?_
    refine Ops.u (Dtu.pickT (lk rfl) (lk rfl)) rfl ?_
    refine Ops.u (Dtu.mv (lk rfl)) rfl ?_
    refine Ops.gn rfl rfl rfl rfl rfl ?_
    refine Ops.gn rfl rfl rfl rfl rfl ?_
    refine Ops.gn rfl rfl rfl rfl rfl ?_
    refine Ops.u (Dtu.pickT (lk rfl) (lk rfl)) rfl ?_
    refine Ops.u (Dtu.asg (lk rfl)) rfl ?_
    refine Ops.nil ?_
    refine Then.next ?_
    refine Body.condT (lk rfl) ?_
    refine Body.seq ?_
    refine Body.region ?_
    refine Ops.u (Dtu.asg (lk rfl)) rfl ?_
    refine Ops.nil ?_
    refine Then.next ?_
    refine Body.ret ?_
    refine Blk.ret ?_
    refine Then.ret ?_
    (first | exact ⟨.inr rfl, _, pk [] rfl, by rw [View.ok_no (by rw [View.fits_w]; omega)]; rfl, rfl⟩ | exact ⟨.inr rfl, _, pk [] rfl, by rw [View.ok_yes (by rw [View.fits_w]; omega)]; rfl, rfl⟩)
  · refine Ops.gu rfl rfl rfl (Dtu.fld fa24_0 (lk rfl)) rfl ?_
    refine Ops.gd rfl rfl rfl (Det.ld Try.isAgg3 (lk rfl) (Rd.ow 0 rfl rfl)) rfl ?_
    refine Ops.gu rfl rfl rfl (Dtu.gtr (lk rfl) (lk rfl)) rfl ?_
    refine Ops.u (Dtu.pickF (lk rfl) (lk rfl)) rfl ?_
    refine Ops.u (Dtu.mv (lk rfl)) rfl ?_
    refine Ops.decP 12 rfl (fun c12 => ?_) (fun c12 => ?_)
    · refine Ops.gn rfl rfl rfl rfl rfl ?_
      refine Ops.gn rfl rfl rfl rfl rfl ?_
      refine Ops.gn rfl rfl rfl rfl rfl ?_
      refine Ops.u (Dtu.pickT (lk rfl) (lk rfl)) rfl ?_
      refine Ops.u (Dtu.mv (lk rfl)) rfl ?_
      refine Ops.gn rfl rfl rfl rfl rfl ?_
      refine Ops.gn rfl rfl rfl rfl rfl ?_
      refine Ops.gn rfl rfl rfl rfl rfl ?_
      refine Ops.u (Dtu.pickT (lk rfl) (lk rfl)) rfl ?_
      refine Ops.u (Dtu.asg (lk rfl)) rfl ?_
      refine Ops.nil ?_
      refine Then.next ?_
      refine Body.condT (lk rfl) ?_
      refine Body.seq ?_
      refine Body.region ?_
      refine Ops.u (Dtu.asg (lk rfl)) rfl ?_
      refine Ops.nil ?_
      refine Then.next ?_
      refine Body.ret ?_
      refine Blk.ret ?_
      refine Then.ret ?_
      (first | exact ⟨.inr rfl, _, pk [] rfl, by rw [View.ok_no (by rw [View.fits_w]; omega)]; rfl, rfl⟩ | exact ⟨.inr rfl, _, pk [] rfl, by rw [View.ok_yes (by rw [View.fits_w]; omega)]; rfl, rfl⟩)
    · refine Ops.gu rfl rfl rfl (Dtu.fld fa24_1 (lk rfl)) rfl ?_
      refine Ops.gd rfl rfl rfl (Det.ld Try.isAgg3 (lk rfl) (Rd.ow 0 rfl rfl)) rfl ?_
      refine Ops.gu rfl rfl rfl (Dtu.lss (lk rfl) (lk rfl)) rfl ?_
      refine Ops.u (Dtu.pickF (lk rfl) (lk rfl)) rfl ?_
      refine Ops.u (Dtu.mv (lk rfl)) rfl ?_
      refine Ops.decP 17 rfl (fun c17 => ?_) (fun c17 => ?_)
      · refine Ops.gn rfl rfl rfl rfl rfl ?_
        refine Ops.gn rfl rfl rfl rfl rfl ?_
        refine Ops.gn rfl rfl rfl rfl rfl ?_
        refine Ops.u (Dtu.pickT (lk rfl) (lk rfl)) rfl ?_
        refine Ops.u (Dtu.asg (lk rfl)) rfl ?_
        refine Ops.nil ?_
        refine Then.next ?_
        refine Body.condT (lk rfl) ?_
        refine Body.seq ?_
        refine Body.region ?_
        refine Ops.u (Dtu.asg (lk rfl)) rfl ?_
        refine Ops.nil ?_
        refine Then.next ?_
        refine Body.ret ?_
        refine Blk.ret ?_
        refine Then.ret ?_
        (first | exact ⟨.inr rfl, _, pk [] rfl, by rw [View.ok_no (by rw [View.fits_w]; omega)]; rfl, rfl⟩ | exact ⟨.inr rfl, _, pk [] rfl, by rw [View.ok_yes (by rw [View.fits_w]; omega)]; rfl, rfl⟩)
      · refine Ops.gu rfl rfl rfl (Dtu.fld fa24_1 (lk rfl)) rfl ?_
        refine Ops.gd rfl rfl rfl (Det.ld Try.isAgg3 (lk rfl) (Rd.ow 0 rfl rfl)) rfl ?_
        refine Ops.gu rfl rfl rfl (Dtu.gtr (lk rfl) (lk rfl)) rfl ?_
        refine Ops.u (Dtu.pickF (lk rfl) (lk rfl)) rfl ?_
        refine Ops.u (Dtu.asg (lk rfl)) rfl ?_
        refine Ops.nil ?_
        refine Then.next ?_
        refine Body.condP (lk rfl) (fun c3 => ?_) (fun c3 => ?_)
        · refine Body.seq ?_
          refine Body.region ?_
          refine Ops.u (Dtu.asg (lk rfl)) rfl ?_
          refine Ops.nil ?_
          refine Then.next ?_
          refine Body.ret ?_
          refine Blk.ret ?_
          refine Then.ret ?_
          (first | exact ⟨.inr rfl, _, pk [] rfl, by rw [View.ok_no (by rw [View.fits_w]; omega)]; rfl, rfl⟩ | exact ⟨.inr rfl, _, pk [] rfl, by rw [View.ok_yes (by rw [View.fits_w]; omega)]; rfl, rfl⟩)
        · refine Body.seq ?_
          refine Body.region ?_
          refine Ops.u (Dtu.fld fa24_3 (lk rfl)) rfl ?_
          refine Ops.d (Det.ld Try.isAgg3 (lk rfl) (Rd.ow 0 rfl rfl)) rfl ?_
          refine Ops.u (Dtu.lss (lk rfl) (lk rfl)) rfl ?_
          refine Ops.u (Dtu.mv (lk rfl)) rfl ?_
          refine Ops.decP 26 rfl (fun c26 => ?_) (fun c26 => ?_)
          · refine Ops.gn rfl rfl rfl rfl rfl ?_
            refine Ops.gn rfl rfl rfl rfl rfl ?_
            refine Ops.gn rfl rfl rfl rfl rfl ?_
            refine Ops.gn rfl rfl rfl rfl rfl ?_
            refine Ops.gn rfl rfl rfl rfl rfl ?_
            refine Ops.u (Dtu.pickT (lk rfl) (lk rfl)) rfl ?_
            refine Ops.u (Dtu.mv (lk rfl)) rfl ?_
            refine Ops.gn rfl rfl rfl rfl rfl ?_
            refine Ops.gn rfl rfl rfl rfl rfl ?_
            refine Ops.gn rfl rfl rfl rfl rfl ?_
            refine Ops.u (Dtu.pickT (lk rfl) (lk rfl)) rfl ?_
            refine Ops.u (Dtu.mv (lk rfl)) rfl ?_
            refine Ops.gn rfl rfl rfl rfl rfl ?_
            refine Ops.gn rfl rfl rfl rfl rfl ?_
            refine Ops.gn rfl rfl rfl rfl rfl ?_
            refine Ops.gn rfl rfl rfl rfl rfl ?_
            refine Ops.gn rfl rfl rfl rfl rfl ?_
            refine Ops.u (Dtu.pickT (lk rfl) (lk rfl)) rfl ?_
            refine Ops.u (Dtu.mv (lk rfl)) rfl ?_
            refine Ops.gn rfl rfl rfl rfl rfl ?_
            refine Ops.gn rfl rfl rfl rfl rfl ?_
            refine Ops.gn rfl rfl rfl rfl rfl ?_
            refine Ops.gn rfl rfl rfl rfl rfl ?_
            refine Ops.gn rfl rfl rfl rfl rfl ?_
            refine Ops.gn rfl rfl rfl rfl rfl ?_
            refine Ops.gn rfl rfl rfl rfl rfl ?_
            refine Ops.gn rfl rfl rfl rfl rfl ?_
            refine Ops.gn rfl rfl rfl rfl rfl ?_
            refine Ops.u (Dtu.pickT (lk rfl) (lk rfl)) rfl ?_
            refine Ops.u (Dtu.asg (lk rfl)) rfl ?_
            refine Ops.nil ?_
            refine Then.next ?_
            refine Body.condT (lk rfl) ?_
            refine Body.seq ?_
            refine Body.region ?_
            refine Ops.u (Dtu.asg (lk rfl)) rfl ?_
            refine Ops.nil ?_
            refine Then.next ?_
            refine Body.ret ?_
            refine Blk.ret ?_
            refine Then.ret ?_
            (first | exact ⟨.inr rfl, _, pk [] rfl, by rw [View.ok_no (by rw [View.fits_w]; omega)]; rfl, rfl⟩ | exact ⟨.inr rfl, _, pk [] rfl, by rw [View.ok_yes (by rw [View.fits_w]; omega)]; rfl, rfl⟩)
          · refine Ops.gu rfl rfl rfl (Dtu.fld fa24_3 (lk rfl)) rfl ?_
            refine Ops.gd rfl rfl rfl (Det.ld Try.isAgg3 (lk rfl) (Rd.ow 0 rfl rfl)) rfl ?_
            refine Ops.gu rfl rfl rfl (Dtu.fld fa24_0 (lk rfl)) rfl ?_
            refine Ops.gd rfl rfl rfl (Det.ld Try.isAgg3 (lk rfl) (Rd.ow 0 rfl rfl)) rfl ?_
            refine Ops.gu rfl rfl rfl (Dtu.geq (lk rfl) (lk rfl)) rfl ?_
            refine Ops.u (Dtu.pickF (lk rfl) (lk rfl)) rfl ?_
            refine Ops.u (Dtu.mv (lk rfl)) rfl ?_
            refine Ops.decP 33 rfl (fun c33 => ?_) (fun c33 => ?_)
            · refine Ops.gn rfl rfl rfl rfl rfl ?_
              refine Ops.gn rfl rfl rfl rfl rfl ?_
              refine Ops.gn rfl rfl rfl rfl rfl ?_
              refine Ops.u (Dtu.pickT (lk rfl) (lk rfl)) rfl ?_
              refine Ops.u (Dtu.mv (lk rfl)) rfl ?_
              refine Ops.gn rfl rfl rfl rfl rfl ?_
              refine Ops.gn rfl rfl rfl rfl rfl ?_
              refine Ops.gn rfl rfl rfl rfl rfl ?_
              refine Ops.gn rfl rfl rfl rfl rfl ?_
              refine Ops.gn rfl rfl rfl rfl rfl ?_
              refine Ops.u (Dtu.pickT (lk rfl) (lk rfl)) rfl ?_
              refine Ops.u (Dtu.mv (lk rfl)) rfl ?_
              refine Ops.gn rfl rfl rfl rfl rfl ?_
              refine Ops.gn rfl rfl rfl rfl rfl ?_
              refine Ops.gn rfl rfl rfl rfl rfl ?_
              refine Ops.gn rfl rfl rfl rfl rfl ?_
              refine Ops.gn rfl rfl rfl rfl rfl ?_
              refine Ops.gn rfl rfl rfl rfl rfl ?_
              refine Ops.gn rfl rfl rfl rfl rfl ?_
              refine Ops.gn rfl rfl rfl rfl rfl ?_
              refine Ops.gn rfl rfl rfl rfl rfl ?_
              refine Ops.u (Dtu.pickT (lk rfl) (lk rfl)) rfl ?_
              refine Ops.u (Dtu.asg (lk rfl)) rfl ?_
              refine Ops.nil ?_
              refine Then.next ?_
              refine Body.condT (lk rfl) ?_
              refine Body.seq ?_
              refine Body.region ?_
              refine Ops.u (Dtu.asg (lk rfl)) rfl ?_
              refine Ops.nil ?_
              refine Then.next ?_
              refine Body.ret ?_
              refine Blk.ret ?_
              refine Then.ret ?_
              (first | exact ⟨.inr rfl, _, pk [] rfl, by rw [View.ok_no (by rw [View.fits_w]; omega)]; rfl, rfl⟩ | exact ⟨.inr rfl, _, pk [] rfl, by rw [View.ok_yes (by rw [View.fits_w]; omega)]; rfl, rfl⟩)
            · refine Ops.gu rfl rfl rfl (Dtu.fld fa24_4 (lk rfl)) rfl ?_
              refine Ops.gd rfl rfl rfl (Det.ld Try.isAgg3 (lk rfl) (Rd.ow 0 rfl rfl)) rfl ?_
              refine Ops.gu rfl rfl rfl (Dtu.lss (lk rfl) (lk rfl)) rfl ?_
              refine Ops.u (Dtu.pickF (lk rfl) (lk rfl)) rfl ?_
              refine Ops.u (Dtu.mv (lk rfl)) rfl ?_
              refine Ops.decP 38 rfl (fun c38 => ?_) (fun c38 => ?_)
              · refine Ops.gn rfl rfl rfl rfl rfl ?_
                refine Ops.gn rfl rfl rfl rfl rfl ?_
                refine Ops.gn rfl rfl rfl rfl rfl ?_
                refine Ops.gn rfl rfl rfl rfl rfl ?_
                refine Ops.gn rfl rfl rfl rfl rfl ?_
                refine Ops.u (Dtu.pickT (lk rfl) (lk rfl)) rfl ?_
                refine Ops.u (Dtu.mv (lk rfl)) rfl ?_
                refine Ops.gn rfl rfl rfl rfl rfl ?_
                refine Ops.gn rfl rfl rfl rfl rfl ?_
                refine Ops.gn rfl rfl rfl rfl rfl ?_
                refine Ops.gn rfl rfl rfl rfl rfl ?_
                refine Ops.gn rfl rfl rfl rfl rfl ?_
                refine Ops.gn rfl rfl rfl rfl rfl ?_
                refine Ops.gn rfl rfl rfl rfl rfl ?_
                refine Ops.gn rfl rfl rfl rfl rfl ?_
                refine Ops.gn rfl rfl rfl rfl rfl ?_
                refine Ops.u (Dtu.pickT (lk rfl) (lk rfl)) rfl ?_
                refine Ops.u (Dtu.asg (lk rfl)) rfl ?_
                refine Ops.nil ?_
                refine Then.next ?_
                refine Body.condT (lk rfl) ?_
                refine Body.seq ?_
                refine Body.region ?_
                refine Ops.u (Dtu.asg (lk rfl)) rfl ?_
                refine Ops.nil ?_
                refine Then.next ?_
                refine Body.ret ?_
                refine Blk.ret ?_
                refine Then.ret ?_
                (first | exact ⟨.inr rfl, _, pk [] rfl, by rw [View.ok_no (by rw [View.fits_w]; omega)]; rfl, rfl⟩ | exact ⟨.inr rfl, _, pk [] rfl, by rw [View.ok_yes (by rw [View.fits_w]; omega)]; rfl, rfl⟩)
              · refine Ops.gu rfl rfl rfl (Dtu.fld fa24_4 (lk rfl)) rfl ?_
                refine Ops.gd rfl rfl rfl (Det.ld Try.isAgg3 (lk rfl) (Rd.ow 0 rfl rfl)) rfl ?_
                refine Ops.gu rfl rfl rfl (Dtu.fld fa24_1 (lk rfl)) rfl ?_
                refine Ops.gd rfl rfl rfl (Det.ld Try.isAgg3 (lk rfl) (Rd.ow 0 rfl rfl)) rfl ?_
                refine Ops.gu rfl rfl rfl (Dtu.geq (lk rfl) (lk rfl)) rfl ?_
                refine Ops.u (Dtu.pickF (lk rfl) (lk rfl)) rfl ?_
                refine Ops.u (Dtu.mv (lk rfl)) rfl ?_
                refine Ops.decP 45 rfl (fun c45 => ?_) (fun c45 => ?_)
                · refine Ops.gn rfl rfl rfl rfl rfl ?_
                  refine Ops.gn rfl rfl rfl rfl rfl ?_
                  refine Ops.gn rfl rfl rfl rfl rfl ?_
                  refine Ops.gn rfl rfl rfl rfl rfl ?_
                  refine Ops.gn rfl rfl rfl rfl rfl ?_
                  refine Ops.gn rfl rfl rfl rfl rfl ?_
                  refine Ops.gn rfl rfl rfl rfl rfl ?_
                  refine Ops.gn rfl rfl rfl rfl rfl ?_
                  refine Ops.gn rfl rfl rfl rfl rfl ?_
                  refine Ops.u (Dtu.pickT (lk rfl) (lk rfl)) rfl ?_
                  refine Ops.u (Dtu.asg (lk rfl)) rfl ?_
                  refine Ops.nil ?_
                  refine Then.next ?_
                  refine Body.condT (lk rfl) ?_
                  refine Body.seq ?_
                  refine Body.region ?_
                  refine Ops.u (Dtu.asg (lk rfl)) rfl ?_
                  refine Ops.nil ?_
                  refine Then.next ?_
                  refine Body.ret ?_
                  refine Blk.ret ?_
                  refine Then.ret ?_
                  (first | exact ⟨.inr rfl, _, pk [] rfl, by rw [View.ok_no (by rw [View.fits_w]; omega)]; rfl, rfl⟩ | exact ⟨.inr rfl, _, pk [] rfl, by rw [View.ok_yes (by rw [View.fits_w]; omega)]; rfl, rfl⟩)
                · refine Ops.gu rfl rfl rfl (Dtu.fld fa24_2 (lk rfl)) rfl ?_
                  refine Ops.gd rfl rfl rfl (Det.ld Try.isAgg22 (lk rfl) (Rd.ow 0 rfl rfl)) rfl ?_
                  refine Ops.gu rfl rfl rfl (Dtu.lenS Try.underlying22 (Sl.up h) (lk rfl)) rfl ?_
                  refine Ops.gu rfl rfl rfl (Dtu.fld fa24_0 (lk rfl)) rfl ?_
                  refine Ops.gd rfl rfl rfl (Det.ld Try.isAgg3 (lk rfl) (Rd.ow 0 rfl rfl)) rfl ?_
                  refine Ops.gu rfl rfl rfl (Dtu.fld fa24_1 (lk rfl)) rfl ?_
                  refine Ops.gd rfl rfl rfl (Det.ld Try.isAgg3 (lk rfl) (Rd.ow 0 rfl rfl)) rfl ?_
                  refine Ops.gu rfl rfl rfl (Dtu.mul (lk rfl) (lk rfl) rfl) rfl ?_
                  refine Ops.gu rfl rfl rfl (Dtu.neq (lk rfl) (lk rfl)) rfl ?_
                  refine Ops.u (Dtu.pickF (lk rfl) (lk rfl)) rfl ?_
                  refine Ops.u (Dtu.asg (lk rfl)) rfl ?_
                  refine Ops.nil ?_
                  refine Then.next ?_
                  refine Body.condP (lk rfl) (fun c22 => ?_) (fun c22 => ?_)
                  · refine Body.seq ?_
                    refine Body.region ?_
                    refine Ops.u (Dtu.asg (lk rfl)) rfl ?_
                    refine Ops.nil ?_
                    refine Then.next ?_
                    refine Body.ret ?_
                    refine Blk.ret ?_
                    refine Then.ret ?_
                    (first | exact ⟨.inr rfl, _, pk [] rfl, by rw [View.ok_no (by rw [View.fits_w]; omega)]; rfl, rfl⟩ | exact ⟨.inr rfl, _, pk [] rfl, by rw [View.ok_yes (by rw [View.fits_w]; omega)]; rfl, rfl⟩)
                  · refine Body.skip ?_
                    refine Blk.norm ?_
                    refine Then.next ?_
                    refine Body.seq ?_
                    refine Body.region ?_
                    refine Ops.u (Dtu.fld fa24_2 (lk rfl)) rfl ?_
                    refine Ops.d (Det.ld Try.isAgg22 (lk rfl) (Rd.ow 0 rfl rfl)) rfl ?_
                    refine Ops.s (Stp.call rfl Try.call68 (lks rfl) (fun E' le hat => containsC_ok E' _ _ (fun c => !c.ok) _ Try.call69 (fun E c => right1_ok E c) (Sl.mono (by assumption) le)) ?_) rfl
                    rintro _ _ ⟨rfl, rfl⟩
                    refine Ops.u (Dtu.not (lk rfl)) rfl ?_
                    refine Ops.u (Dtu.asg (lk rfl)) rfl ?_
                    refine Ops.nil ?_
                    refine Then.next ?_
                    refine Body.ret ?_
                    (first | exact ⟨.inr rfl, _, pk [] rfl, by rw [View.ok_no (by rw [View.fits_w]; omega)]; rfl, rfl⟩ | exact ⟨.inr rfl, _, pk [] rfl, by rw [View.ok_yes (by rw [View.fits_w]; omega)]; rfl, rfl⟩)
end Go.Proofs.Ytijjjdljdjnbaaa
end
section
/- A cell's and a style's bytes. -/
namespace Go.Proofs.Ytijjjdljdjnbaaa
set_option maxRecDepth 100000
set_option linter.unusedVariables false
set_option linter.unusedSimpArgs false
open Go.Sx

theorem sizeS_pos {v : Int} (h : v < 4611686018427387904) : 1 ≤ sizeS v := by
  unfold sizeS classS; (repeat' split) <;> simp_all <;> omega
theorem put_fine (E : Env) (v : Int) (h0 : 0 ≤ v) (h1 : v < 4611686018427387904) : Does Try.prog 73 #[.int .u64 v] E [] fun r H' =>
    ∃ s, (1 ≤ sizeS v ∧ sizeS v ≤ 8) ∧ r = .tuple #[s, .int .i64 0] ∧ H' = [osl 5 1 s (sizeS v) ((putL v).map (.int .u8))] := by
  have hz := sizeS_pos h1
  have hz2 := sizeS_le v
  refine (put_ok E v h0).mono ?_
  rintro r H' (⟨h, _⟩ | ⟨_, s, h2, h3⟩)
  · omega
  · exact ⟨s, ⟨hz, hz2⟩, h2, h3⟩
theorem isCol_bound {c : Int} (h : isCol c = true) : 0 ≤ c ∧ c < 50331648 := by simp [isCol] at h; omega
theorem isPt_bound {c : Int} (h : isPt c = true) : 0 ≤ c ∧ c ≤ 1114111 := by simp [isPt] at h; omega
def Cell.styleB (c : Cell) : List Int := [c.fl] ++ (putL c.fg ++ putL c.bg)
def Cell.bytes (c : Cell) : List Int := c.styleB ++ putL c.pt
def Cell.styleN (c : Cell) : Nat := 1 + sizeS c.fg + sizeS c.bg
def Cell.size (c : Cell) : Nat := c.styleN + sizeS c.pt
def Cell.sn (c : Cell) : Nat → Nat
  | 0 => 1
  | 1 => 1 + sizeS c.fg
  | _ => 1 + sizeS c.fg + sizeS c.bg
def Cell.sb (c : Cell) : Nat → List Int
  | 0 => [c.fl]
  | 1 => [c.fl] ++ putL c.fg
  | _ => [c.fl] ++ putL c.fg ++ putL c.bg
theorem styleWrite_ok (E : Env) (c : Cell) (h : c.okStyle = true) : Does Try.prog 77 #[.agg c.style.toArray] E [] fun r H' => ∃ s, (3 ≤ c.styleN ∧ c.styleN ≤ 17) ∧ r = .tuple #[s, .int .i64 0] ∧ H' = [osl 5 1 s c.styleN (c.styleB.map (.int .u8))] := by
  have hf : isCol c.fg = true ∧ isCol c.bg = true := by simpa [Cell.okStyle, okSty] using h
  have b1 := isCol_bound hf.1
  have b2 := isCol_bound hf.2
  have z1 := sizeS_le c.fg
  have z2 := sizeS_le c.bg
  have z3 := sizeS_pos (v := c.fg) (by omega)
  have z4 := sizeS_pos (v := c.bg) (by omega)
  refine Does.go (args := [.agg c.style.toArray]) _ _ Try.func77 rfl Try.ntmps77 rfl rfl ?_
  refine Body.seq ?_
  refine Body.region ?_
  refine Ops.s (Stp.box (lk rfl) rfl (fun b1 => ?_)) rfl
  refine Ops.u (Dtu.asg (lk rfl)) rfl ?_
  refine Ops.u (Dtu.asg (lk rfl)) rfl ?_
  refine Ops.nil ?_
  refine Then.next ?_
  refine Body.seq ?_
  refine Body.seq ?_
  refine Body.region ?_
  refine Ops.d (Det.lda Try.isAgg53 Try.sizeOf53 (lk rfl) (Rds.ow (m := 3) 0 rfl rfl) rfl) rfl ?_
  refine Ops.s (Stp.call rfl Try.call108 (lks rfl) (fun E' le hat => styleRight_ok E' _ _ _) ?_) rfl
  rintro _ _ ⟨rfl, rfl⟩
  refine Ops.u (Dtu.not (lk rfl)) rfl ?_
  refine Ops.nil ?_
  refine Then.next ?_
  refine Body.cond (lk rfl) (fun hn => absurd hn (by simp [h])) (fun _ => ?_)
  refine Body.skip ?_
  refine Then.next ?_
  refine Body.seq ?_
  refine Body.region ?_
  refine Ops.u (Dtu.fld fa53_0 (lk rfl)) rfl ?_
  refine Ops.d (Det.ld Try.isAgg5 (lk rfl) (Rd.ow 0 rfl rfl)) rfl ?_
  refine Ops.s (Stp.buildSliceO Try.underlying32 ty5 (by decide) (by decide) (lkp rfl) rfl rfl rfl (by decide) (fun v14 => ?_)) rfl
  refine Ops.u (Dtu.asg (lk rfl)) rfl ?_
  refine Ops.nil ?_
  refine Then.next ?_
  refine Body.seq ?_
  refine Body.seq ?_
  refine Body.region ?_
  refine Ops.u (Dtu.fld fa53_1 (lk rfl)) rfl ?_
  refine Ops.d (Det.ld Try.isAgg51 (lk rfl) (Rd.ow 1 rfl rfl)) rfl ?_
  refine Ops.u (Dtu.fld fa53_2 (lk rfl)) rfl ?_
  refine Ops.d (Det.ld Try.isAgg51 (lk rfl) (Rd.ow 1 rfl rfl)) rfl ?_
  refine Ops.u (Dtu.buildArr ty184 Try.underlying184 Try.sizeOf51 (lkp rfl) rfl rfl) rfl ?_
  refine Ops.u (Dtu.mv (lk rfl)) rfl ?_
  refine Ops.nil ?_
  refine Then.next ?_
  refine Body.block ?_
  refine Body.loopF (γ := Nat × Value) rfl (fun g => [(20, .int .i64 g.1), (4, g.2)]) (fun g => [osl 5 1 g.2 (c.sn g.1) ((c.sb g.1).map (.int .u8)), own b1 c.style 53]) (fun g => g.1 ≤ 2) (fun g => 2 - g.1) (0, v14) (by simp) ⟨rfl, rfl, trivial⟩ rfl ?_
  rintro ⟨i, o⟩ u hi
  match i, hi with
  | 0, _ =>
    dsimp only
    rw [show c.sn 0 = 1 from rfl, show c.sb 0 = [c.fl] from rfl]
    refine Body.seq ?_
    refine Body.region ?_
    refine Ops.u (Dtu.lss (lk rfl) (lk rfl)) rfl ?_
    refine Ops.nil ?_
    refine Then.next ?_
    refine Body.seq ?_
    refine Body.condP (lk rfl) (fun _ => ?_) (fun hn => absurd (by first | omega | assumption | decide) hn)
    refine Body.skip ?_
    refine Then.next ?_
    refine Body.seq ?_
    refine Body.block ?_
    refine Body.seq ?_
    refine Body.region ?_
    refine Ops.u (Dtu.ixv (i := 0) Try.underlying184 Try.sizeOf51 Try.isAgg51 (lk rfl) (lk rfl) (by omega) (by omega) rfl) rfl ?_
    refine Ops.u (Dtu.asg (lk rfl)) rfl ?_
    refine Ops.nil ?_
    refine Then.next ?_
    refine Body.seq ?_
    refine Body.region ?_
    refine Ops.u (Dtu.mv (lk rfl)) rfl ?_
    refine Ops.u (Dtu.cvt Try.underlying51 Try.underlying75 (lk rfl) (wu64 (by omega) (by omega))) rfl ?_
    refine Ops.s (Stp.call rfl Try.call73 (lks rfl) (fun E' le hat => put_fine E' _ (by omega) (by omega)) ?_) rfl
    rintro _ _ ⟨s26, hz26, rfl, rfl⟩
    refine Ops.u (Dtu.mv (lk rfl)) rfl ?_
    refine Ops.u (Dtu.ext (lk rfl) rfl) rfl ?_
    refine Ops.u (Dtu.ext (lk rfl) rfl) rfl ?_
    refine Ops.u (Dtu.asg (lk rfl)) rfl ?_
    refine Ops.u (Dtu.asg (lk rfl)) rfl ?_
    refine Ops.nil ?_
    refine Then.next ?_
    refine Body.seq ?_
    refine Body.seq ?_
    refine Body.region ?_
    refine Ops.u (Dtu.mv (lk rfl)) rfl ?_
    refine Ops.u (Dtu.neq (lk rfl) (lk rfl)) rfl ?_
    refine Ops.nil ?_
    refine Then.next ?_
    refine Body.condP (lk rfl) (fun hy => absurd hy (by first | omega | assumption | decide)) (fun _ => ?_)
    refine Body.skip ?_
    refine Then.next ?_
    refine Body.region ?_
    refine Ops.u (Dtu.mv (lk rfl)) rfl ?_
    refine Ops.u (Dtu.mv (lk rfl)) rfl ?_
    refine Ops.s (Stp.append 1 Try.underlying32 ty5 rfl rfl (lk rfl) (lk rfl) (Sl.osl 0 rfl) (by first | rfl | exact all_map (fun _ => rfl) _ | exact all_flat (fun _ => rfl) _) (by omega) (by omega) (fun v34 => ?_)) rfl
    refine Ops.u (Dtu.asg (lk rfl)) rfl ?_
    refine Ops.nil ?_
    refine Blk.norm ?_
    refine Then.next ?_
    refine Body.region ?_
    refine Ops.u (Dtu.add (lk rfl) (lk rfl) (w64 (by omega) (by omega))) rfl ?_
    refine Ops.u (Dtu.mv (lk rfl)) rfl ?_
    refine Ops.nil ?_
    exact Round.goK [1, 1] (1, v34) rfl rfl rfl ⟨rfl, rfl, trivial⟩ rfl (by simp [Cell.sn, Cell.sb]) (by simp) (by simp)
  | 1, _ =>
    dsimp only
    rw [show c.sn 1 = 1 + sizeS c.fg from rfl, show c.sb 1 = [c.fl] ++ putL c.fg from rfl]
    refine Body.seq ?_
    refine Body.region ?_
    refine Ops.u (Dtu.lss (lk rfl) (lk rfl)) rfl ?_
    refine Ops.nil ?_
    refine Then.next ?_
    refine Body.seq ?_
    refine Body.condP (lk rfl) (fun _ => ?_) (fun hn => absurd (by first | omega | assumption | decide) hn)
    refine Body.skip ?_
    refine Then.next ?_
    refine Body.seq ?_
    refine Body.block ?_
    refine Body.seq ?_
    refine Body.region ?_
    refine Ops.u (Dtu.ixv (i := 1) Try.underlying184 Try.sizeOf51 Try.isAgg51 (lk rfl) (lk rfl) (by omega) (by omega) rfl) rfl ?_
    refine Ops.u (Dtu.asg (lk rfl)) rfl ?_
    refine Ops.nil ?_
    refine Then.next ?_
    refine Body.seq ?_
    refine Body.region ?_
    refine Ops.u (Dtu.mv (lk rfl)) rfl ?_
    refine Ops.u (Dtu.cvt Try.underlying51 Try.underlying75 (lk rfl) (wu64 (by omega) (by omega))) rfl ?_
    refine Ops.s (Stp.call rfl Try.call73 (lks rfl) (fun E' le hat => put_fine E' _ (by omega) (by omega)) ?_) rfl
    rintro _ _ ⟨s26, hz26, rfl, rfl⟩
    refine Ops.u (Dtu.mv (lk rfl)) rfl ?_
    refine Ops.u (Dtu.ext (lk rfl) rfl) rfl ?_
    refine Ops.u (Dtu.ext (lk rfl) rfl) rfl ?_
    refine Ops.u (Dtu.asg (lk rfl)) rfl ?_
    refine Ops.u (Dtu.asg (lk rfl)) rfl ?_
    refine Ops.nil ?_
    refine Then.next ?_
    refine Body.seq ?_
    refine Body.seq ?_
    refine Body.region ?_
    refine Ops.u (Dtu.mv (lk rfl)) rfl ?_
    refine Ops.u (Dtu.neq (lk rfl) (lk rfl)) rfl ?_
    refine Ops.nil ?_
    refine Then.next ?_
    refine Body.condP (lk rfl) (fun hy => absurd hy (by first | omega | assumption | decide)) (fun _ => ?_)
    refine Body.skip ?_
    refine Then.next ?_
    refine Body.region ?_
    refine Ops.u (Dtu.mv (lk rfl)) rfl ?_
    refine Ops.u (Dtu.mv (lk rfl)) rfl ?_
    refine Ops.s (Stp.append 1 Try.underlying32 ty5 rfl rfl (lk rfl) (lk rfl) (Sl.osl 0 rfl) (by first | rfl | exact all_map (fun _ => rfl) _ | exact all_flat (fun _ => rfl) _) (by omega) (by omega) (fun v34 => ?_)) rfl
    refine Ops.u (Dtu.asg (lk rfl)) rfl ?_
    refine Ops.nil ?_
    refine Blk.norm ?_
    refine Then.next ?_
    refine Body.region ?_
    refine Ops.u (Dtu.add (lk rfl) (lk rfl) (w64 (by omega) (by omega))) rfl ?_
    refine Ops.u (Dtu.mv (lk rfl)) rfl ?_
    refine Ops.nil ?_
    exact Round.goK [1, 1] (2, v34) rfl rfl rfl ⟨rfl, rfl, trivial⟩ rfl (by simp [Cell.sn, Cell.sb]) (by simp) (by simp)
  | 2, _ =>
    dsimp only
    rw [show c.sn 2 = 1 + sizeS c.fg + sizeS c.bg from rfl, show c.sb 2 = [c.fl] ++ putL c.fg ++ putL c.bg from rfl]
    refine Body.seq ?_
    refine Body.region ?_
    refine Ops.u (Dtu.lss (lk rfl) (lk rfl)) rfl ?_
    refine Ops.nil ?_
    refine Then.next ?_
    refine Body.seq ?_
    refine Body.condP (lk rfl) (fun hy => absurd hy (by first | omega | assumption | decide)) (fun _ => ?_)
    refine Body.exit ?_
    refine Then.exit ?_
    refine Round.exit ?_
    refine Blk.here ?_
    refine Then.next ?_
    refine Body.seq ?_
    refine Body.region ?_
    refine Ops.u (Dtu.mv (lk rfl)) rfl ?_
    refine Ops.u (Dtu.asg (lk rfl)) rfl ?_
    refine Ops.u (Dtu.asg (lk rfl)) rfl ?_
    refine Ops.nil ?_
    refine Then.next ?_
    refine Body.ret ?_
    exact ⟨.inr rfl, _, pk [0] rfl, o, by unfold Cell.styleN; omega, rfl, by simp [Cell.styleB, Cell.styleN]⟩
theorem putCell_ok (E : Env) (c : Cell) (h : c.ok = true) : Does Try.prog 33 #[.agg c.enc.toArray] E [] fun r H' => ∃ s, (4 ≤ c.size ∧ c.size ≤ 25) ∧ r = .tuple #[s, .int .i64 0] ∧ H' = [osl 5 1 s c.size (c.bytes.map (.int .u8))] := by
  have hf : isPt c.pt = true ∧ c.okStyle = true := by simpa [Cell.ok, okCell] using h
  have b1 := isPt_bound hf.1
  have hs := hf.2
  have z1 := sizeS_le c.pt
  have z3 := sizeS_pos (v := c.pt) (by omega)
  refine Does.go (args := [.agg c.enc.toArray]) _ _ Try.func33 rfl Try.ntmps33 rfl rfl ?_
  refine Body.seq ?_
  refine Body.region ?_
  refine Ops.s (Stp.box (lk rfl) rfl (fun b1 => ?_)) rfl
  refine Ops.u (Dtu.asg (lk rfl)) rfl ?_
  refine Ops.u (Dtu.asg (lk rfl)) rfl ?_
  refine Ops.nil ?_
  refine Then.next ?_
  refine Body.seq ?_
  refine Body.seq ?_
  refine Body.region ?_
  refine Ops.d (Det.lda Try.isAgg55 Try.sizeOf55 (lk rfl) (Rds.ow (m := 4) 0 rfl rfl) rfl) rfl ?_
  refine Ops.s (Stp.call rfl Try.call70 (lks rfl) (fun E' le hat => isCell_ok E' _ _ _ _) ?_) rfl
  rintro _ _ ⟨rfl, rfl⟩
  refine Ops.u (Dtu.not (lk rfl)) rfl ?_
  refine Ops.nil ?_
  refine Then.next ?_
  refine Body.cond (lk rfl) (fun hn => absurd hn (by simp [h])) (fun _ => ?_)
  refine Body.skip ?_
  refine Then.next ?_
  refine Body.seq ?_
  refine Body.region ?_
  refine Ops.u (Dtu.fld fa55_1 (lk rfl)) rfl ?_
  refine Ops.d (Det.lda Try.isAgg53 Try.sizeOf53 (lk rfl) (Rds.ow (m := 3) 0 rfl rfl) rfl) rfl ?_
  refine Ops.s (Stp.call rfl Try.call77 (lks rfl) (fun E' le hat => styleWrite_ok E' _ (by assumption)) ?_) rfl
  rintro _ _ ⟨s13, hz13, rfl, rfl⟩
  refine Ops.u (Dtu.mv (lk rfl)) rfl ?_
  refine Ops.u (Dtu.ext (lk rfl) rfl) rfl ?_
  refine Ops.u (Dtu.ext (lk rfl) rfl) rfl ?_
  refine Ops.u (Dtu.asg (lk rfl)) rfl ?_
  refine Ops.u (Dtu.asg (lk rfl)) rfl ?_
  refine Ops.nil ?_
  refine Then.next ?_
  refine Body.seq ?_
  refine Body.seq ?_
  refine Body.region ?_
  refine Ops.u (Dtu.mv (lk rfl)) rfl ?_
  refine Ops.u (Dtu.neq (lk rfl) (lk rfl)) rfl ?_
  refine Ops.nil ?_
  refine Then.next ?_
  refine Body.condP (lk rfl) (fun hy => absurd hy (by first | omega | assumption | decide)) (fun _ => ?_)
  refine Body.skip ?_
  refine Then.next ?_
  refine Body.seq ?_
  refine Body.region ?_
  refine Ops.u (Dtu.fld fa55_0 (lk rfl)) rfl ?_
  refine Ops.d (Det.ld Try.isAgg21 (lk rfl) (Rd.ow 1 rfl rfl)) rfl ?_
  refine Ops.u (Dtu.cvt Try.underlying21 Try.underlying75 (lk rfl) (wu64 (by omega) (by omega))) rfl ?_
  refine Ops.s (Stp.call rfl Try.call73 (lks rfl) (fun E' le hat => put_fine E' _ (by omega) (by omega)) ?_) rfl
  rintro _ _ ⟨s23, hz23, rfl, rfl⟩
  refine Ops.u (Dtu.mv (lk rfl)) rfl ?_
  refine Ops.u (Dtu.ext (lk rfl) rfl) rfl ?_
  refine Ops.u (Dtu.ext (lk rfl) rfl) rfl ?_
  refine Ops.u (Dtu.asg (lk rfl)) rfl ?_
  refine Ops.u (Dtu.asg (lk rfl)) rfl ?_
  refine Ops.nil ?_
  refine Then.next ?_
  refine Body.seq ?_
  refine Body.seq ?_
  refine Body.region ?_
  refine Ops.u (Dtu.mv (lk rfl)) rfl ?_
  refine Ops.u (Dtu.neq (lk rfl) (lk rfl)) rfl ?_
  refine Ops.nil ?_
  refine Then.next ?_
  refine Body.condP (lk rfl) (fun hy => absurd hy (by first | omega | assumption | decide)) (fun _ => ?_)
  refine Body.skip ?_
  refine Then.next ?_
  refine Body.seq ?_
  refine Body.region ?_
  refine Ops.u (Dtu.mv (lk rfl)) rfl ?_
  refine Ops.u (Dtu.mv (lk rfl)) rfl ?_
  refine Ops.s (Stp.append 1 Try.underlying32 ty5 rfl rfl (lk rfl) (lk rfl) (Sl.osl 0 rfl) (by first | rfl | exact all_map (fun _ => rfl) _ | exact all_flat (fun _ => rfl) _) (by omega) (by omega) (fun v31 => ?_)) rfl
  refine Ops.u (Dtu.asg (lk rfl)) rfl ?_
  refine Ops.u (Dtu.asg (lk rfl)) rfl ?_
  refine Ops.nil ?_
  refine Then.next ?_
  refine Body.ret ?_
  exact ⟨.inr rfl, _, pk [1] rfl, v31, by unfold Cell.size; omega, rfl, by simp [Cell.bytes, Cell.size]⟩
end Go.Proofs.Ytijjjdljdjnbaaa
end
section
/- Views and cells: which are the same. -/
namespace Go.Proofs.Ytijjjdljdjnbaaa
set_option maxRecDepth 100000
set_option linter.unusedVariables false
set_option linter.unusedSimpArgs false
open Go.Sx

theorem eq55 (a b : Cell) : EqAgg Try.prog 55 a.enc b.enc (decide (a = b)) := by
  have h : EqAgg Try.prog 55 a.enc b.enc ((a.pt == b.pt) && (((a.fl == b.fl) && ((a.fg == b.fg) && ((a.bg == b.bg) && true))) && true)) :=
    EqAgg.mk fun k => EqD.struct Try.underlying55 (by kernel_rfl) (FE.cons rfl (part_v Try.isAgg21 rfl) (part_v Try.isAgg21 rfl) (EqD.int Try.underlying21)
      (FE.cons rfl (part_a Try.isAgg53 Try.sizeOf53 rfl) (part_a Try.isAgg53 Try.sizeOf53 rfl)
        (EqD.struct Try.underlying53 (by kernel_rfl) (FE.cons rfl (part_v Try.isAgg5 rfl) (part_v Try.isAgg5 rfl) (EqD.int Try.underlying5)
          (FE.cons rfl (part_v Try.isAgg51 rfl) (part_v Try.isAgg51 rfl) (EqD.int Try.underlying51) (FE.cons rfl (part_v Try.isAgg51 rfl) (part_v Try.isAgg51 rfl) (EqD.int Try.underlying51) FE.nil)))) FE.nil))
  have e : ((a.pt == b.pt) && (((a.fl == b.fl) && ((a.fg == b.fg) && ((a.bg == b.bg) && true))) && true)) = decide (a = b) := by
    cases a; cases b
    rw [Bool.eq_iff_iff]
    simp
  rwa [e] at h
theorem eqGuard55 : Try.prog.eqGuardType Try.prog.depth 55 = false := by kernel_rfl
theorem equalC_ok (E : Env) (s t : Value) (xs ys : List Cell) (hx : Sl E [] 4 s xs.length (xs.flatMap Cell.enc)) (hy : Sl E [] 4 t ys.length (ys.flatMap Cell.enc)) :
    Does Try.prog 71 #[s, t] E [] fun r H' => r = .bool (decide (xs = ys)) ∧ H' = [] := by
  refine Does.pure hx.len fun hlen => ?_
  refine Does.pure hy.len fun hlen2 => ?_
  refine Does.go (args := [s, t]) _ _ Try.func71 rfl Try.ntmps71 rfl rfl ?_
  refine Body.seq ?_
  refine Body.region ?_
  refine Ops.u (Dtu.asg (lk rfl)) rfl ?_
  refine Ops.nil ?_
  refine Then.next ?_
  refine Body.seq ?_
  refine Body.seq ?_
  refine Body.region ?_
  refine Ops.u (Dtu.mv (lk rfl)) rfl ?_
  refine Ops.u (Dtu.lenS Try.underlying22 (Sl.up hx) (lk rfl)) rfl ?_
  refine Ops.u (Dtu.mv (lk rfl)) rfl ?_
  refine Ops.u (Dtu.lenS Try.underlying22 (Sl.up hy) (lk rfl)) rfl ?_
  refine Ops.u (Dtu.neq (lk rfl) (lk rfl)) rfl ?_
  refine Ops.nil ?_
  refine Then.next ?_
  refine Body.condP (lk rfl) (fun c10 => ?_) (fun c10 => ?_)
  · refine Body.seq ?_
    refine Body.region ?_
    refine Ops.u (Dtu.asg (lk rfl)) rfl ?_
    refine Ops.nil ?_
    refine Then.next ?_
    refine Body.ret ?_
    refine Then.ret ?_
    refine ⟨.inr rfl, _, pk [] rfl, bool_eq ?_, rfl⟩
    have : xs ≠ ys := fun e => c10 (by rw [e])
    simp [this]
  · refine Body.skip ?_
    refine Then.next ?_
    refine Body.seq ?_
    refine Body.seq ?_
    refine Body.region ?_
    refine Ops.u (Dtu.mv (lk rfl)) rfl ?_
    refine Ops.u (Dtu.lenS Try.underlying22 (Sl.up hx) (lk rfl)) rfl ?_
    refine Ops.u (Dtu.mv (lk rfl)) rfl ?_
    refine Ops.nil ?_
    refine Then.next ?_
    refine Body.block ?_
    have hl : xs.length = ys.length := by omega
    refine Body.loopF (γ := Nat) rfl (fun k => [(13, .int .i64 k)]) (fun _ => []) (fun k => k ≤ xs.length ∧ ∀ j, j < k → xs[j]! = ys[j]!) (fun k => xs.length - k) 0 ⟨by omega, fun j hj => by omega⟩ ⟨rfl, trivial⟩ rfl ?_
    rintro k u ⟨hk, hb⟩
    refine Body.seq ?_
    refine Body.region ?_
    refine Ops.u (Dtu.lss (lk rfl) (lk rfl)) rfl ?_
    refine Ops.nil ?_
    refine Then.next ?_
    refine Body.seq ?_
    refine Body.condP (lk rfl) (fun c14 => ?_) (fun c14 => ?_)
    · refine Body.skip ?_
      refine Then.next ?_
      refine Body.seq ?_
      refine Body.block ?_
      refine Body.seq ?_
      refine Body.region ?_
      refine Ops.u (Dtu.mv (lk rfl)) rfl ?_
      refine Ops.u (Dtu.asg (lk rfl)) rfl ?_
      refine Ops.nil ?_
      refine Then.next ?_
      refine Body.seq ?_
      refine Body.draw mixed ?_
      refine AB.u 0 rfl (by decide +kernel) (Dtu.mv (lk rfl)) rfl ?_
      refine AB.u 1 rfl (by decide +kernel) (Dtu.mv (lk rfl)) rfl ?_
      refine AB.u 2 rfl (by decide +kernel) (Dtu.ix (i := (k)) Try.underlying22 Try.sizeOf55 (Sl.up hx) (lk rfl) (lk rfl) (by omega) (by omega)) rfl ?_
      refine AB.d 3 rfl (by decide +kernel) rfl (Det.lda Try.isAgg55 Try.sizeOf55 (lk rfl) (Rds.sl (Sl.up hx) (gf (sz := 4) (fun _ => rfl) (by omega))) rfl) rfl ?_
      refine AB.u 4 rfl (by decide +kernel) (Dtu.mv (lk rfl)) rfl ?_
      refine AB.u 5 rfl (by decide +kernel) (Dtu.mv (lk rfl)) rfl ?_
      refine AB.u 6 rfl (by decide +kernel) (Dtu.ix (i := (k)) Try.underlying22 Try.sizeOf55 (Sl.up hy) (lk rfl) (lk rfl) (by omega) (by omega)) rfl ?_
      refine AB.d 7 rfl (by decide +kernel) rfl (Det.lda Try.isAgg55 Try.sizeOf55 (lk rfl) (Rds.sl (Sl.up hy) (gf (sz := 4) (fun _ => rfl) (by omega))) rfl) rfl ?_
      refine AB.u 8 rfl (by decide +kernel) (Dtu.neS eqGuard55 (eq55 _ _) (lk rfl) (lk rfl)) rfl ?_
      refine AB.done (by decide +kernel) ?_
      refine Then.next ?_
      refine Body.cond (lk rfl) (fun c24 => ?_) (fun c24 => ?_)
      · refine Body.seq ?_
        refine Body.region ?_
        refine Ops.u (Dtu.asg (lk rfl)) rfl ?_
        refine Ops.nil ?_
        refine Then.next ?_
        refine Body.ret ?_
        refine Blk.ret ?_
        refine Then.ret ?_
        refine Round.ret ?_
        refine Blk.ret ?_
        refine Then.ret ?_
        refine ⟨.inr rfl, _, pk [] rfl, bool_eq ?_, rfl⟩
        have : xs ≠ ys := fun e => by simp [e] at c24
        simp [this]
      · refine Body.skip ?_
        refine Blk.norm ?_
        refine Then.next ?_
        refine Body.region ?_
        refine Ops.u (Dtu.add (lk rfl) (lk rfl) (w64 (by omega) (by omega))) rfl ?_
        refine Ops.u (Dtu.mv (lk rfl)) rfl ?_
        refine Ops.nil ?_
        refine Round.goF (k + 1) rfl rfl rfl ⟨int_eq (by omega), trivial⟩ rfl ⟨by omega, fun j hj => ?_⟩ (by omega)
        by_cases e : j = k
        · subst e; simpa using c24
        · exact hb j (by omega)
    · refine Body.exit ?_
      refine Then.exit ?_
      refine Round.exit ?_
      refine Blk.here ?_
      refine Then.next ?_
      refine Body.seq ?_
      refine Body.region ?_
      refine Ops.u (Dtu.asg (lk rfl)) rfl ?_
      refine Ops.nil ?_
      refine Then.next ?_
      refine Body.ret ?_
      refine ⟨.inr rfl, _, pk [] rfl, bool_eq ?_, rfl⟩
      have : xs = ys := List.ext_getElem hl fun j h1 h2 => by
        have := hb j (by omega)
        rwa [getElem!_pos xs j h1, getElem!_pos ys j h2] at this
      simp [this]
theorem same_ok (E : Env) (a b : View) (s t : Value) (ha : a.has E [] s) (hb : b.has E [] t) : Does Try.prog 26 #[a.val s, b.val t] E [] fun r H' => r = .bool (decide (a = b)) ∧ H' = [] := by
  unfold View.has at ha hb
  refine Does.pure ha.isSl fun hs => ?_
  refine Does.pure hb.isSl fun ht => ?_
  refine Does.go (args := [a.val s, b.val t]) _ _ Try.func26 rfl Try.ntmps26 rfl rfl ?_
  obtain ⟨r1, c1, l1, o1, q1, v1⟩ := a
  obtain ⟨r2, c2, l2, o2, q2, v2⟩ := b
  refine Body.seq ?_
  refine Body.region ?_
  refine Ops.s (Stp.box (lk rfl) rfl (fun b2 => ?_)) rfl
  refine Ops.s (Stp.box (lk rfl) rfl (fun b3 => ?_)) rfl
  refine Ops.u (Dtu.asg (lk rfl)) rfl ?_
  refine Ops.nil ?_
  refine Then.next ?_
  refine Body.seq ?_
  refine Body.region ?_
  refine Ops.u (Dtu.fld fa24_0 (lk rfl)) rfl ?_
  refine Ops.d (Det.ld Try.isAgg3 (lk rfl) (Rd.ow 1 rfl rfl)) rfl ?_
  refine Ops.u (Dtu.fld fa24_0 (lk rfl)) rfl ?_
  refine Ops.d (Det.ld Try.isAgg3 (lk rfl) (Rd.ow 0 rfl rfl)) rfl ?_
  refine Ops.u (Dtu.eql (lk rfl) (lk rfl)) rfl ?_
  refine Ops.u (Dtu.mv (lk rfl)) rfl ?_
  refine Ops.decP 10 rfl (fun c10 => ?_) (fun c10 => ?_)
  · refine Ops.gu rfl rfl rfl (Dtu.fld fa24_1 (lk rfl)) rfl ?_
    refine Ops.gd rfl rfl rfl (Det.ld Try.isAgg3 (lk rfl) (Rd.ow 1 rfl rfl)) rfl ?_
    refine Ops.gu rfl rfl rfl (Dtu.fld fa24_1 (lk rfl)) rfl ?_
    refine Ops.gd rfl rfl rfl (Det.ld Try.isAgg3 (lk rfl) (Rd.ow 0 rfl rfl)) rfl ?_
    refine Ops.gu rfl rfl rfl (Dtu.eql (lk rfl) (lk rfl)) rfl ?_
    refine Ops.u (Dtu.pickT (lk rfl) (lk rfl)) rfl ?_
    refine Ops.u (Dtu.mv (lk rfl)) rfl ?_
    refine Ops.decP 17 rfl (fun c17 => ?_) (fun c17 => ?_)
    · refine Ops.gu rfl rfl rfl (Dtu.fld fa24_3 (lk rfl)) rfl ?_
      refine Ops.gd rfl rfl rfl (Det.ld Try.isAgg3 (lk rfl) (Rd.ow 1 rfl rfl)) rfl ?_
      refine Ops.gu rfl rfl rfl (Dtu.fld fa24_3 (lk rfl)) rfl ?_
      refine Ops.gd rfl rfl rfl (Det.ld Try.isAgg3 (lk rfl) (Rd.ow 0 rfl rfl)) rfl ?_
      refine Ops.gu rfl rfl rfl (Dtu.eql (lk rfl) (lk rfl)) rfl ?_
      refine Ops.u (Dtu.pickT (lk rfl) (lk rfl)) rfl ?_
      refine Ops.u (Dtu.mv (lk rfl)) rfl ?_
      refine Ops.decP 24 rfl (fun c24 => ?_) (fun c24 => ?_)
      · refine Ops.gu rfl rfl rfl (Dtu.fld fa24_4 (lk rfl)) rfl ?_
        refine Ops.gd rfl rfl rfl (Det.ld Try.isAgg3 (lk rfl) (Rd.ow 1 rfl rfl)) rfl ?_
        refine Ops.gu rfl rfl rfl (Dtu.fld fa24_4 (lk rfl)) rfl ?_
        refine Ops.gd rfl rfl rfl (Det.ld Try.isAgg3 (lk rfl) (Rd.ow 0 rfl rfl)) rfl ?_
        refine Ops.gu rfl rfl rfl (Dtu.eql (lk rfl) (lk rfl)) rfl ?_
        refine Ops.u (Dtu.pickT (lk rfl) (lk rfl)) rfl ?_
        refine Ops.u (Dtu.mv (lk rfl)) rfl ?_
        refine Ops.decP 31 rfl (fun c31 => ?_) (fun c31 => ?_)
        · refine Ops.gu rfl rfl rfl (Dtu.fld fa24_5 (lk rfl)) rfl ?_
          refine Ops.gd rfl rfl rfl (Det.ld Try.isAgg4 (lk rfl) (Rd.ow 1 rfl rfl)) rfl ?_
          refine Ops.gu rfl rfl rfl (Dtu.fld fa24_5 (lk rfl)) rfl ?_
          refine Ops.gd rfl rfl rfl (Det.ld Try.isAgg4 (lk rfl) (Rd.ow 0 rfl rfl)) rfl ?_
          refine Ops.gu rfl rfl rfl (Dtu.eqB Try.underlying4 (lk rfl) (lk rfl)) rfl ?_
          refine Ops.u (Dtu.pickT (lk rfl) (lk rfl)) rfl ?_
          refine Ops.u (Dtu.mv (lk rfl)) rfl ?_
          refine Ops.decP 38 rfl (fun c38 => ?_) (fun c38 => ?_)
          · refine Ops.gu rfl rfl rfl (Dtu.fld fa24_2 (lk rfl)) rfl ?_
            refine Ops.gd rfl rfl rfl (Det.ld Try.isAgg22 (lk rfl) (Rd.ow 1 rfl rfl)) rfl ?_
            refine Ops.gu rfl rfl rfl (Dtu.fld fa24_2 (lk rfl)) rfl ?_
            refine Ops.gd rfl rfl rfl (Det.ld Try.isAgg22 (lk rfl) (Rd.ow 0 rfl rfl)) rfl ?_
            refine Ops.gs rfl rfl rfl (Stp.call rfl Try.call71 (lks rfl) (fun E' le hat => equalC_ok E' _ _ _ _ (Sl.mono (by assumption) le) (Sl.mono (by assumption) le)) ?_) rfl
            rintro _ _ ⟨rfl, rfl⟩
            refine Ops.u (Dtu.pickT (lk rfl) (lk rfl)) rfl ?_
            refine Ops.u (Dtu.asg (lk rfl)) rfl ?_
            refine Ops.nil ?_
            refine Then.next ?_
            refine Body.ret ?_
            (refine ⟨.inr rfl, _, pk [] rfl, bool_eq ?_, rfl⟩; simp_all)
          · refine Ops.gn rfl rfl rfl rfl rfl ?_
            refine Ops.gn rfl rfl rfl rfl rfl ?_
            refine Ops.gn rfl rfl rfl rfl rfl ?_
            refine Ops.gn rfl rfl rfl rfl rfl ?_
            refine Ops.gn rfl rfl rfl rfl rfl ?_
            refine Ops.u (Dtu.pickF (lk rfl) (lk rfl)) rfl ?_
            refine Ops.u (Dtu.asg (lk rfl)) rfl ?_
            refine Ops.nil ?_
            refine Then.next ?_
            refine Body.ret ?_
            (refine ⟨.inr rfl, _, pk [] rfl, bool_eq ?_, rfl⟩; simp_all)
        · refine Ops.gn rfl rfl rfl rfl rfl ?_
          refine Ops.gn rfl rfl rfl rfl rfl ?_
          refine Ops.gn rfl rfl rfl rfl rfl ?_
          refine Ops.gn rfl rfl rfl rfl rfl ?_
          refine Ops.gn rfl rfl rfl rfl rfl ?_
          refine Ops.u (Dtu.pickF (lk rfl) (lk rfl)) rfl ?_
          refine Ops.u (Dtu.mv (lk rfl)) rfl ?_
          refine Ops.gn rfl rfl rfl rfl rfl ?_
          refine Ops.gn rfl rfl rfl rfl rfl ?_
          refine Ops.gn rfl rfl rfl rfl rfl ?_
          refine Ops.gn rfl rfl rfl rfl rfl ?_
          refine Ops.gn rfl rfl rfl rfl rfl ?_
          refine Ops.u (Dtu.pickF (lk rfl) (lk rfl)) rfl ?_
          refine Ops.u (Dtu.asg (lk rfl)) rfl ?_
          refine Ops.nil ?_
          refine Then.next ?_
          refine Body.ret ?_
          (refine ⟨.inr rfl, _, pk [] rfl, bool_eq ?_, rfl⟩; simp_all)
      · refine Ops.gn rfl rfl rfl rfl rfl ?_
        refine Ops.gn rfl rfl rfl rfl rfl ?_
        refine Ops.gn rfl rfl rfl rfl rfl ?_
        refine Ops.gn rfl rfl rfl rfl rfl ?_
        refine Ops.gn rfl rfl rfl rfl rfl ?_
        refine Ops.u (Dtu.pickF (lk rfl) (lk rfl)) rfl ?_
        refine Ops.u (Dtu.mv (lk rfl)) rfl ?_
        refine Ops.gn rfl rfl rfl rfl rfl ?_
        refine Ops.gn rfl rfl rfl rfl rfl ?_
        refine Ops.gn rfl rfl rfl rfl rfl ?_
        refine Ops.gn rfl rfl rfl rfl rfl ?_
        refine Ops.gn rfl rfl rfl rfl rfl ?_
        refine Ops.u (Dtu.pickF (lk rfl) (lk rfl)) rfl ?_
        refine Ops.u (Dtu.mv (lk rfl)) rfl ?_
        refine Ops.gn rfl rfl rfl rfl rfl ?_
        refine Ops.gn rfl rfl rfl rfl rfl ?_
        refine Ops.gn rfl rfl rfl rfl rfl ?_
        refine Ops.gn rfl rfl rfl rfl rfl ?_
        refine Ops.gn rfl rfl rfl rfl rfl ?_
        refine Ops.u (Dtu.pickF (lk rfl) (lk rfl)) rfl ?_
        refine Ops.u (Dtu.asg (lk rfl)) rfl ?_
        refine Ops.nil ?_
        refine Then.next ?_
        refine Body.ret ?_
        (refine ⟨.inr rfl, _, pk [] rfl, bool_eq ?_, rfl⟩; simp_all)
    · refine Ops.gn rfl rfl rfl rfl rfl ?_
      refine Ops.gn rfl rfl rfl rfl rfl ?_
      refine Ops.gn rfl rfl rfl rfl rfl ?_
      refine Ops.gn rfl rfl rfl rfl rfl ?_
      refine Ops.gn rfl rfl rfl rfl rfl ?_
      refine Ops.u (Dtu.pickF (lk rfl) (lk rfl)) rfl ?_
      refine Ops.u (Dtu.mv (lk rfl)) rfl ?_
      refine Ops.gn rfl rfl rfl rfl rfl ?_
      refine Ops.gn rfl rfl rfl rfl rfl ?_
      refine Ops.gn rfl rfl rfl rfl rfl ?_
      refine Ops.gn rfl rfl rfl rfl rfl ?_
      refine Ops.gn rfl rfl rfl rfl rfl ?_
      refine Ops.u (Dtu.pickF (lk rfl) (lk rfl)) rfl ?_
      refine Ops.u (Dtu.mv (lk rfl)) rfl ?_
      refine Ops.gn rfl rfl rfl rfl rfl ?_
      refine Ops.gn rfl rfl rfl rfl rfl ?_
      refine Ops.gn rfl rfl rfl rfl rfl ?_
      refine Ops.gn rfl rfl rfl rfl rfl ?_
      refine Ops.gn rfl rfl rfl rfl rfl ?_
      refine Ops.u (Dtu.pickF (lk rfl) (lk rfl)) rfl ?_
      refine Ops.u (Dtu.mv (lk rfl)) rfl ?_
      refine Ops.gn rfl rfl rfl rfl rfl ?_
      refine Ops.gn rfl rfl rfl rfl rfl ?_
      refine Ops.gn rfl rfl rfl rfl rfl ?_
      refine Ops.gn rfl rfl rfl rfl rfl ?_
      refine Ops.gn rfl rfl rfl rfl rfl ?_
      refine Ops.u (Dtu.pickF (lk rfl) (lk rfl)) rfl ?_
      refine Ops.u (Dtu.asg (lk rfl)) rfl ?_
      refine Ops.nil ?_
      refine Then.next ?_
      refine Body.ret ?_
      (refine ⟨.inr rfl, _, pk [] rfl, bool_eq ?_, rfl⟩; simp_all)
  · refine Ops.gn rfl rfl rfl rfl rfl ?_
    refine Ops.gn rfl rfl rfl rfl rfl ?_
    refine Ops.gn rfl rfl rfl rfl rfl ?_
    refine Ops.gn rfl rfl rfl rfl rfl ?_
    refine Ops.gn rfl rfl rfl rfl rfl ?_
    refine Ops.u (Dtu.pickF (lk rfl) (lk rfl)) rfl ?_
    refine Ops.u (Dtu.mv (lk rfl)) rfl ?_
    refine Ops.gn rfl rfl rfl rfl rfl ?_
    refine Ops.gn rfl rfl rfl rfl rfl ?_
    refine Ops.gn rfl rfl rfl rfl rfl ?_
    refine Ops.gn rfl rfl rfl rfl rfl ?_
    refine Ops.gn rfl rfl rfl rfl rfl ?_
    refine Ops.u (Dtu.pickF (lk rfl) (lk rfl)) rfl ?_
    refine Ops.u (Dtu.mv (lk rfl)) rfl ?_
    refine Ops.gn rfl rfl rfl rfl rfl ?_
    refine Ops.gn rfl rfl rfl rfl rfl ?_
    refine Ops.gn rfl rfl rfl rfl rfl ?_
    refine Ops.gn rfl rfl rfl rfl rfl ?_
    refine Ops.gn rfl rfl rfl rfl rfl ?_
    refine Ops.u (Dtu.pickF (lk rfl) (lk rfl)) rfl ?_
    refine Ops.u (Dtu.mv (lk rfl)) rfl ?_
    refine Ops.gn rfl rfl rfl rfl rfl ?_
    refine Ops.gn rfl rfl rfl rfl rfl ?_
    refine Ops.gn rfl rfl rfl rfl rfl ?_
    refine Ops.gn rfl rfl rfl rfl rfl ?_
    refine Ops.gn rfl rfl rfl rfl rfl ?_
    refine Ops.u (Dtu.pickF (lk rfl) (lk rfl)) rfl ?_
    refine Ops.u (Dtu.mv (lk rfl)) rfl ?_
    refine Ops.gn rfl rfl rfl rfl rfl ?_
    refine Ops.gn rfl rfl rfl rfl rfl ?_
    refine Ops.gn rfl rfl rfl rfl rfl ?_
    refine Ops.gn rfl rfl rfl rfl rfl ?_
    refine Ops.gn rfl rfl rfl rfl rfl ?_
    refine Ops.u (Dtu.pickF (lk rfl) (lk rfl)) rfl ?_
    refine Ops.u (Dtu.asg (lk rfl)) rfl ?_
    refine Ops.nil ?_
    refine Then.next ?_
    refine Body.ret ?_
    (refine ⟨.inr rfl, _, pk [] rfl, bool_eq ?_, rfl⟩; simp_all)
theorem blank_ok (E : Env) : Does Try.prog 103 #[] E [] fun r H' => r = .agg (Cell.enc ⟨32, 0, 0, 0⟩).toArray ∧ H' = [] := by
  refine Does.go (args := []) _ _ Try.func103 rfl Try.ntmps103 rfl rfl ?_
  refine Body.seq ?_
  refine Body.region ?_
  refine Ops.s (Stp.alloc ty55 (fun b0 => ?_)) rfl
  refine Ops.nil ?_
  refine Then.next ?_
  refine Body.seq ?_
  refine Body.region ?_
  refine Ops.u (Dtu.build ty55 pl55 (lkp rfl) rfl rfl) rfl ?_
  refine Ops.e (Stp.store 0 Try.sizeOf55 (lk rfl) (lk rfl) rfl rfl rfl rfl rfl rfl rfl ?_)
  refine Ops.nil ?_
  refine Then.next ?_
  refine Body.ret ?_
  exact ⟨.inr rfl, _, Loads.agg Try.isAgg55 Try.sizeOf55 (Rds.ow (m := 4) 0 rfl rfl) rfl, _, pk [] rfl, rfl, rfl⟩
def View.first : View := ⟨1, 1, [⟨32, 0, 0, 0⟩], 0, 0, true⟩
theorem first_ok (E : Env) : Does Try.prog 57 #[] E [] fun r H' => ∃ s, r = View.first.val s ∧ H' = [osl 55 4 s 1 (View.first.cells.flatMap Cell.enc)] := by
  refine Does.go (args := []) _ _ Try.func57 rfl Try.ntmps57 rfl rfl ?_
  refine Body.seq ?_
  refine Body.region ?_
  refine Ops.s (Stp.alloc ty24 (fun b0 => ?_)) rfl
  refine Ops.nil ?_
  refine Then.next ?_
  refine Body.seq ?_
  refine Body.region ?_
  refine Ops.s (Stp.call rfl Try.call103 (lks rfl) (fun E' le hat => blank_ok E') ?_) rfl
  rintro _ _ ⟨rfl, rfl⟩
  refine Ops.s (Stp.buildSliceO Try.underlying22 ty55 (by decide) (by decide) (lkp rfl) rfl rfl rfl (by decide) (fun v2 => ?_)) rfl
  refine Ops.pure (Sl.isSl (Sl.osl 0 rfl)) fun h2 => ?_
  obtain ⟨a2, m2, c2, rfl⟩ := h2
  refine Ops.u (Dtu.build ty24 pl24 (lkp rfl) rfl rfl) rfl ?_
  refine Ops.e (Stp.store 1 Try.sizeOf24 (lk rfl) (lk rfl) rfl rfl rfl rfl rfl rfl rfl ?_)
  refine Ops.nil ?_
  refine Then.next ?_
  refine Body.ret ?_
  exact ⟨.inr rfl, _, Loads.agg Try.isAgg24 Try.sizeOf24 (Rds.ow (m := 6) 1 rfl rfl) rfl, _, pk [0] rfl, _, rfl, rfl⟩
theorem made_nil (E : Env) : Does Try.prog 128 #[.pointer none] E [] fun r H' => r = .bool false ∧ H' = [] := by
  refine Does.go (args := [.pointer none]) _ _ Try.func128 rfl Try.ntmps128 rfl rfl ?_
  refine Body.seq ?_
  refine Body.region ?_
  refine Ops.u (Dtu.asg (lk rfl)) rfl ?_
  refine Ops.nil ?_
  refine Then.next ?_
  refine Body.seq ?_
  refine Body.region ?_
  refine Ops.u (Dtu.mv (lk rfl)) rfl ?_
  refine Ops.u (Dtu.neNil Try.underlying173 (lk rfl) (lk rfl)) rfl ?_
  refine Ops.u (Dtu.mv (lk rfl)) rfl ?_
  refine Ops.gn rfl rfl rfl rfl rfl ?_
  refine Ops.gn rfl rfl rfl rfl rfl ?_
  refine Ops.gn rfl rfl rfl rfl rfl ?_
  refine Ops.gn rfl rfl rfl rfl rfl ?_
  refine Ops.gn rfl rfl rfl rfl rfl ?_
  refine Ops.u (Dtu.pickF (lk rfl) (lk rfl)) rfl ?_
  refine Ops.u (Dtu.asg (lk rfl)) rfl ?_
  refine Ops.nil ?_
  refine Then.next ?_
  refine Body.ret ?_
  exact ⟨.inr rfl, _, pk [] rfl, rfl, rfl⟩
theorem gridOf_nil (E : Env) : Does Try.prog 109 #[.pointer none] E [] fun r H' => r = .pointer none ∧ H' = [] := by
  refine Does.go (args := [.pointer none]) _ _ Try.func109 rfl Try.ntmps109 rfl rfl ?_
  refine Body.seq ?_
  refine Body.region ?_
  refine Ops.u (Dtu.asg (lk rfl)) rfl ?_
  refine Ops.nil ?_
  refine Then.next ?_
  refine Body.seq ?_
  refine Body.seq ?_
  refine Body.region ?_
  refine Ops.u (Dtu.mv (lk rfl)) rfl ?_
  refine Ops.s (Stp.call rfl Try.call128 (lks rfl) (fun E' le hat => made_nil E') ?_) rfl
  rintro _ _ ⟨rfl, rfl⟩
  refine Ops.u (Dtu.not (lk rfl)) rfl ?_
  refine Ops.nil ?_
  refine Then.next ?_
  refine Body.condT (lk rfl) ?_
  refine Body.seq ?_
  refine Body.region ?_
  refine Ops.u (Dtu.asg (lk rfl)) rfl ?_
  refine Ops.nil ?_
  refine Then.next ?_
  refine Body.ret ?_
  refine Then.ret ?_
  exact ⟨.inr rfl, _, pk [] rfl, rfl, rfl⟩
def View.none : View := ⟨0, 0, [], 0, 0, false⟩
theorem of_nil (E : Env) : Does Try.prog 72 #[.pointer none] E [] fun r H' => r = .tuple #[View.none.val (.slice none 0 0), .int .i64 6] ∧ H' = [] := by
  refine Does.go (args := [.pointer none]) _ _ Try.func72 rfl Try.ntmps72 rfl rfl ?_
  refine Body.seq ?_
  refine Body.region ?_
  refine Ops.s (Stp.alloc ty24 (fun b2 => ?_)) rfl
  refine Ops.u (Dtu.asg (lk rfl)) rfl ?_
  refine Ops.nil ?_
  refine Then.next ?_
  refine Body.seq ?_
  refine Body.region ?_
  refine Ops.u (Dtu.mv (lk rfl)) rfl ?_
  refine Ops.s (Stp.call rfl Try.call109 (lks rfl) (fun E' le hat => gridOf_nil E') ?_) rfl
  rintro _ _ ⟨rfl, rfl⟩
  refine Ops.u (Dtu.asg (lk rfl)) rfl ?_
  refine Ops.nil ?_
  refine Then.next ?_
  refine Body.seq ?_
  refine Body.seq ?_
  refine Body.region ?_
  refine Ops.u (Dtu.mv (lk rfl)) rfl ?_
  refine Ops.u (Dtu.eqNil Try.underlying174 (lk rfl) (lk rfl)) rfl ?_
  refine Ops.nil ?_
  refine Then.next ?_
  refine Body.condT (lk rfl) ?_
  refine Body.seq ?_
  refine Body.region ?_
  refine Ops.u (Dtu.build ty24 pl24 (lkp rfl) rfl rfl) rfl ?_
  refine Ops.e (Stp.store 0 Try.sizeOf24 (lk rfl) (lk rfl) rfl rfl rfl rfl rfl rfl rfl ?_)
  refine Ops.u (Dtu.asg (lk rfl)) rfl ?_
  refine Ops.nil ?_
  refine Then.next ?_
  refine Body.ret ?_
  refine Then.ret ?_
  exact ⟨.inr rfl, _, Loads.agg Try.isAgg24 Try.sizeOf24 (Rds.ow (m := 6) 0 rfl rfl) rfl, _, pk [] rfl, rfl, rfl⟩
end Go.Proofs.Ytijjjdljdjnbaaa
end
section
/- A view's bytes. -/
namespace Go.Proofs.Ytijjjdljdjnbaaa
set_option maxRecDepth 100000
set_option linter.unusedVariables false
set_option linter.unusedSimpArgs false
open Go.Sx

/-- the bytes of n cells c and of what comes behind them -/
def runsFrom (c : Cell) (n : Nat) : List Cell → List Int
  | [] => putL n ++ c.bytes
  | d :: t => if d = c then runsFrom c (n + 1) t else putL n ++ c.bytes ++ runsFrom d 1 t
def runsB : List Cell → List Int
  | [] => []
  | c :: t => runsFrom c 1 t
def View.head (v : View) : List Int := [v.rows, v.cols, v.row, v.col, if v.vis then 1 else 0]
def View.bytes (v : View) : List Int := v.head ++ runsB v.cells
theorem Cell.bytes_len (c : Cell) : c.bytes.length = c.size := by
  simp [Cell.bytes, Cell.styleB, Cell.size, Cell.styleN, putL_len]; omega
end Go.Proofs.Ytijjjdljdjnbaaa
end
section
/- What bytes are read as: styles and cells. -/
namespace Go.Proofs.Ytijjjdljdjnbaaa
set_option maxRecDepth 100000
set_option linter.unusedVariables false
set_option linter.unusedSimpArgs false
open Go.Sx

theorem foldB_bound (l : List Int) (hl : ∀ i, i < l.length → 0 ≤ l[i]! ∧ l[i]! < 256) : ∀ v k, 0 ≤ v → v < 64 * 256 ^ k → 0 ≤ foldB v l ∧ foldB v l < 64 * 256 ^ (k + l.length) := by
  induction l with
  | nil => intro v k h0 h1; exact ⟨h0, h1⟩
  | cons c t ih =>
    intro v k h0 h1
    have hc := hl 0 (by simp)
    simp at hc
    have := ih (fun i hi => by have := hl (i + 1) (by simp; omega); simpa using this) (v * 256 + c) (k + 1) (by omega) (by rw [Int.pow_succ]; omega)
    have e : foldB v (c :: t) = foldB (v * 256 + c) t := rfl
    rw [e, List.length_cons, show k + (t.length + 1) = k + 1 + t.length by omega]
    exact this
theorem manyS_le {c : Int} (h : 0 ≤ c ∧ c < 256) : manyS c ≤ 8 := by
  unfold manyS
  have : (c / 64).toNat ≤ 3 := by omega
  exact Nat.pow_le_pow_right (n := 2) (j := 3) (by omega) this
theorem getS_bound (bs : List Int) (hb : Byt bs) (p : Int) : 0 ≤ (getS bs p).1 ∧ (getS bs p).1 < 4611686018427387904 := by
  unfold getS
  split
  · simp
  · split
    · simp
    · split
      · simp
      · rename_i h1 h2 h3
        have hq : p.toNat < bs.length := by omega
        have hc := hb p.toNat hq
        have hm := manyS_le hc
        generalize hL : (bs.drop (p.toNat + 1)).take (manyS bs[p.toNat]! - 1) = L
        have hlen : L.length ≤ 7 := by rw [← hL, List.length_take]; omega
        have hbL : ∀ i, i < L.length → 0 ≤ L[i]! ∧ L[i]! < 256 := by
          intro i hi
          subst hL
          have hi' : i < manyS bs[p.toNat]! - 1 ∧ p.toNat + 1 + i < bs.length := by rw [List.length_take, List.length_drop] at hi; omega
          have := hb (p.toNat + 1 + i) hi'.2
          rw [getElem!_pos bs (p.toNat + 1 + i) hi'.2] at this
          rw [getElem!_pos ((bs.drop (p.toNat + 1)).take (manyS bs[p.toNat]! - 1)) i hi]
          simpa [List.getElem_take, List.getElem_drop] using this
        obtain ⟨b1, b2⟩ := foldB_bound L hbL (bs[p.toNat]! % 64) 0 (by omega) (by omega)
        have b3 : (64 : Int) * 256 ^ (0 + L.length) ≤ 4611686018427387904 := by
          have : L.length = 0 ∨ L.length = 1 ∨ L.length = 2 ∨ L.length = 3 ∨ L.length = 4 ∨ L.length = 5 ∨ L.length = 6 ∨ L.length = 7 := by omega
          rcases this with e | e | e | e | e | e | e | e <;> rw [e] <;> decide
        dsimp only
        split
        · simp
        · exact ⟨b1, by dsimp only; omega⟩
theorem getS_next (bs : List Int) (p : Int) : (getS bs p).2.2 = 0 → 0 ≤ p ∧ p < (getS bs p).2.1 ∧ (getS bs p).2.1 ≤ bs.length := by
  unfold getS
  split
  · intro h; simp at h
  · split
    · intro h; simp at h
    · split
      · intro h; simp at h
      · dsimp only
        split
        · intro h; simp at h
        · intro _
          dsimp only
          have : 1 ≤ manyS bs[p.toNat]! := Nat.one_le_two_pow
          omega
/-- a style, the place behind it, an error -/
def styleR (bs : List Int) (at_ : Int) : (Int × Int × Int) × Int × Int :=
  if at_ < 0 ∨ (bs.length : Int) < at_ then ((0, 0, 0), 0, 1)
  else if at_ = bs.length then ((0, 0, 0), 0, 10)
  else
    let g1 := getS bs (at_ + 1)
    if g1.2.2 ≠ 0 then ((0, 0, 0), 0, g1.2.2)
    else
      let g2 := getS bs g1.2.1
      if g2.2.2 ≠ 0 then ((0, 0, 0), 0, g2.2.2)
      else
        let fg := min g1.1 2147483648
        let bg := min g2.1 2147483648
        if isCol fg && isCol bg then ((bs[at_.toNat]!, fg, bg), g2.2.1, 0) else ((0, 0, 0), 0, 3)
def styV (s : Int × Int × Int) : Value := .agg #[.int .u8 s.1, .int .u32 s.2.1, .int .u32 s.2.2]
theorem styleRead_ok (E : Env) (b : Value) (bs : List Int) (p : Int) (h : Sl E [] 1 b bs.length (bs.map (.int .u8))) (hb : Byt bs) : Does Try.prog 78 #[b, .int .i64 p] E [] fun r H' =>
    r = .tuple #[styV (styleR bs p).1, .int .i64 (styleR bs p).2.1, .int .i64 (styleR bs p).2.2] ∧ H' = [] := by
  refine Does.pure h.len fun hlen => ?_
  refine Does.go (args := [b, .int .i64 p]) _ _ Try.func78 rfl Try.ntmps78 rfl rfl ?_
  have cl : ∀ q : Int × Int × Int, True := fun _ => trivial
  refine Body.seq ?_
  refine Body.region ?_
  refine Ops.s (Stp.alloc ty53 (fun b4 => ?_)) rfl
  refine Ops.u (Dtu.asg (lk rfl)) rfl ?_
  refine Ops.u (Dtu.asg (lk rfl)) rfl ?_
  refine Ops.nil ?_
  refine Then.next ?_
  refine Body.seq ?_
  refine Body.block ?_
  refine Body.seq ?_
  refine Body.region ?_
  refine Ops.u (Dtu.mv (lk rfl)) rfl ?_
  refine Ops.u (Dtu.lss (lk rfl) (lk rfl)) rfl ?_
  refine Ops.u (Dtu.mv (lk rfl)) rfl ?_
  refine Ops.decP 17 rfl (fun c17 => ?_) (fun c17 => ?_)
  · refine Ops.gn rfl rfl rfl rfl rfl ?_
    refine Ops.gn rfl rfl rfl rfl rfl ?_
    refine Ops.gn rfl rfl rfl rfl rfl ?_
    refine Ops.gn rfl rfl rfl rfl rfl ?_
    refine Ops.u (Dtu.pickT (lk rfl) (lk rfl)) rfl ?_
    refine Ops.u (Dtu.asg (lk rfl)) rfl ?_
    refine Ops.nil ?_
    refine Then.next ?_
    refine Body.condT (lk rfl) ?_
    refine Body.seq ?_
    refine Body.region ?_
    refine Ops.u (Dtu.build ty53 pl53 (lkp rfl) rfl rfl) rfl ?_
    refine Ops.e (Stp.store 0 Try.sizeOf53 (lk rfl) (lk rfl) rfl rfl rfl rfl rfl rfl rfl ?_)
    refine Ops.u (Dtu.asg (lk rfl)) rfl ?_
    refine Ops.u (Dtu.asg (lk rfl)) rfl ?_
    refine Ops.nil ?_
    refine Then.next ?_
    refine Body.ret ?_
    refine Blk.ret ?_
    refine Then.ret ?_
    refine ⟨.inr rfl, _, Loads.agg Try.isAgg53 Try.sizeOf53 (Rds.ow (m := 3) 0 rfl rfl) rfl, _, pk [] rfl, ?_, rfl⟩
    unfold styleR; rw [if_pos (.inl c17)]; rfl
  · refine Ops.gu rfl rfl rfl (Dtu.mv (lk rfl)) rfl ?_
    refine Ops.gu rfl rfl rfl (Dtu.mv (lk rfl)) rfl ?_
    refine Ops.gu rfl rfl rfl (Dtu.lenS Try.underlying32 (Sl.up h) (lk rfl)) rfl ?_
    refine Ops.gu rfl rfl rfl (Dtu.gtr (lk rfl) (lk rfl)) rfl ?_
    refine Ops.u (Dtu.pickF (lk rfl) (lk rfl)) rfl ?_
    refine Ops.u (Dtu.asg (lk rfl)) rfl ?_
    refine Ops.nil ?_
    refine Then.next ?_
    refine Body.condP (lk rfl) (fun c14 => ?_) (fun c14 => ?_)
    · refine Body.seq ?_
      refine Body.region ?_
      refine Ops.u (Dtu.build ty53 pl53 (lkp rfl) rfl rfl) rfl ?_
      refine Ops.e (Stp.store 0 Try.sizeOf53 (lk rfl) (lk rfl) rfl rfl rfl rfl rfl rfl rfl ?_)
      refine Ops.u (Dtu.asg (lk rfl)) rfl ?_
      refine Ops.u (Dtu.asg (lk rfl)) rfl ?_
      refine Ops.nil ?_
      refine Then.next ?_
      refine Body.ret ?_
      refine Blk.ret ?_
      refine Then.ret ?_
      refine ⟨.inr rfl, _, Loads.agg Try.isAgg53 Try.sizeOf53 (Rds.ow (m := 3) 0 rfl rfl) rfl, _, pk [] rfl, ?_, rfl⟩
      unfold styleR; rw [if_pos (.inr c14)]; rfl
    · refine Body.seq ?_
      refine Body.region ?_
      refine Ops.u (Dtu.mv (lk rfl)) rfl ?_
      refine Ops.u (Dtu.mv (lk rfl)) rfl ?_
      refine Ops.u (Dtu.lenS Try.underlying32 (Sl.up h) (lk rfl)) rfl ?_
      refine Ops.u (Dtu.eql (lk rfl) (lk rfl)) rfl ?_
      refine Ops.u (Dtu.asg (lk rfl)) rfl ?_
      refine Ops.nil ?_
      refine Then.next ?_
      refine Body.condP (lk rfl) (fun c24 => ?_) (fun c24 => ?_)
      · refine Body.seq ?_
        refine Body.region ?_
        refine Ops.u (Dtu.build ty53 pl53 (lkp rfl) rfl rfl) rfl ?_
        refine Ops.e (Stp.store 0 Try.sizeOf53 (lk rfl) (lk rfl) rfl rfl rfl rfl rfl rfl rfl ?_)
        refine Ops.u (Dtu.asg (lk rfl)) rfl ?_
        refine Ops.u (Dtu.asg (lk rfl)) rfl ?_
        refine Ops.nil ?_
        refine Then.next ?_
        refine Body.ret ?_
        refine Blk.ret ?_
        refine Then.ret ?_
        refine ⟨.inr rfl, _, Loads.agg Try.isAgg53 Try.sizeOf53 (Rds.ow (m := 3) 0 rfl rfl) rfl, _, pk [] rfl, ?_, rfl⟩
        unfold styleR; rw [if_neg (by omega), if_pos c24]; rfl
      · obtain ⟨q, rfl⟩ := Int.eq_ofNat_of_zero_le (show 0 ≤ p by omega)
        have hq : q < bs.length := by omega
        have a1 := getS_bound bs hb ((q : Int) + 1)
        have a2 := getS_bound bs hb (getS bs ((q : Int) + 1)).2.1
        have hst : styleR bs (q : Int) = (
            let g1 := getS bs ((q : Int) + 1)
            if g1.2.2 ≠ 0 then ((0, 0, 0), 0, g1.2.2)
            else
              let g2 := getS bs g1.2.1
              if g2.2.2 ≠ 0 then ((0, 0, 0), 0, g2.2.2)
              else
                let fg := min g1.1 2147483648
                let bg := min g2.1 2147483648
                if isCol fg && isCol bg then ((bs[q]!, fg, bg), g2.2.1, 0) else ((0, 0, 0), 0, 3)) := by
          unfold styleR
          rw [if_neg (by omega), if_neg (by omega)]
          simp only [Int.toNat_natCast]
        dsimp only at hst
        refine Body.skip ?_
        refine Blk.norm ?_
        refine Then.next ?_
        refine Body.seq ?_
        refine Body.region ?_
        refine Ops.s (Stp.alloc ty185 (fun b7 => ?_)) rfl
        refine Ops.nil ?_
        refine Then.next ?_
        refine Body.seq ?_
        refine Body.region ?_
        refine Ops.u (Dtu.mv (lk rfl)) rfl ?_
        refine Ops.u (Dtu.add (lk rfl) (lk rfl) (w64 (by omega) (by omega))) rfl ?_
        refine Ops.u (Dtu.asg (lk rfl)) rfl ?_
        refine Ops.nil ?_
        refine Then.next ?_
        refine Body.seq ?_
        refine Body.seq ?_
        refine Body.region ?_
        refine Ops.u (Dtu.mv (lk rfl)) rfl ?_
        refine Ops.nil ?_
        refine Then.next ?_
        refine Body.block ?_
        refine Body.loopF (γ := Nat × Int × Int × Int) rfl (fun g => [(32, .int .i64 g.1), (8, .int .i64 g.2.1)]) (fun g => [own b7 [.int .u64 g.2.2.1, .int .u64 g.2.2.2] 185, own b4 [.int .u8 0, .int .u32 0, .int .u32 0] 53])
          (fun g => (g = (0, (q : Int) + 1, 0, 0)) ∨ (g = (1, (getS bs ((q : Int) + 1)).2.1, (getS bs ((q : Int) + 1)).1, 0) ∧ (getS bs ((q : Int) + 1)).2.2 = 0) ∨ (g = (2, (getS bs (getS bs ((q : Int) + 1)).2.1).2.1, (getS bs ((q : Int) + 1)).1, (getS bs (getS bs ((q : Int) + 1)).2.1).1) ∧ (getS bs ((q : Int) + 1)).2.2 = 0 ∧ (getS bs (getS bs ((q : Int) + 1)).2.1).2.2 = 0)) (fun g => 2 - g.1) (0, (q : Int) + 1, 0, 0) (.inl rfl) ⟨rfl, rfl, trivial⟩ rfl ?_
        rintro g u (rfl | ⟨rfl, k1⟩ | ⟨rfl, k1, k2⟩)
        · dsimp only
          refine Body.seq ?_
          refine Body.region ?_
          refine Ops.u (Dtu.lss (lk rfl) (lk rfl)) rfl ?_
          refine Ops.nil ?_
          refine Then.next ?_
          refine Body.seq ?_
          refine Body.condP (lk rfl) (fun _ => ?_) (fun hn => absurd (by first | omega | assumption | decide) hn)
          refine Body.skip ?_
          refine Then.next ?_
          refine Body.seq ?_
          refine Body.block ?_
          refine Body.seq ?_
          refine Body.region ?_
          refine Ops.u (Dtu.mv (lk rfl)) rfl ?_
          refine Ops.u (Dtu.asg (lk rfl)) rfl ?_
          refine Ops.nil ?_
          refine Then.next ?_
          refine Body.seq ?_
          refine Body.region ?_
          refine Ops.u (Dtu.mv (lk rfl)) rfl ?_
          refine Ops.u (Dtu.mv (lk rfl)) rfl ?_
          refine Ops.s (Stp.call rfl Try.call74 (lks rfl) (fun E' le hat => get_ok E' _ _ _ (Sl.mono (by assumption) le) (by assumption)) ?_) rfl
          rintro _ _ ⟨rfl, rfl⟩
          refine Ops.u (Dtu.mv (lk rfl)) rfl ?_
          refine Ops.u (Dtu.ext (lk rfl) rfl) rfl ?_
          refine Ops.u (Dtu.ext (lk rfl) rfl) rfl ?_
          refine Ops.u (Dtu.ext (lk rfl) rfl) rfl ?_
          refine Ops.u (Dtu.asg (lk rfl)) rfl ?_
          refine Ops.u (Dtu.asg (lk rfl)) rfl ?_
          refine Ops.u (Dtu.asg (lk rfl)) rfl ?_
          refine Ops.nil ?_
          refine Then.next ?_
          refine Body.seq ?_
          refine Body.seq ?_
          refine Body.region ?_
          refine Ops.u (Dtu.mv (lk rfl)) rfl ?_
          refine Ops.u (Dtu.neq (lk rfl) (lk rfl)) rfl ?_
          refine Ops.nil ?_
          refine Then.next ?_
          refine Body.condP (lk rfl) (fun c43 => ?_) (fun c43 => ?_)
          · refine Body.seq ?_
            refine Body.region ?_
            refine Ops.u (Dtu.build ty53 pl53 (lkp rfl) rfl rfl) rfl ?_
            refine Ops.u (Dtu.mv (lk rfl)) rfl ?_
            refine Ops.e (Stp.store 1 Try.sizeOf53 (lk rfl) (lk rfl) rfl rfl rfl rfl rfl rfl rfl ?_)
            refine Ops.u (Dtu.asg (lk rfl)) rfl ?_
            refine Ops.u (Dtu.asg (lk rfl)) rfl ?_
            refine Ops.nil ?_
            refine Then.next ?_
            refine Body.ret ?_
            refine Then.ret ?_
            refine Blk.ret ?_
            refine Then.ret ?_
            refine Round.ret ?_
            refine Blk.ret ?_
            refine Then.ret ?_
            refine ⟨.inr rfl, _, Loads.agg Try.isAgg53 Try.sizeOf53 (Rds.ow (m := 3) 1 rfl rfl) rfl, _, pk [] rfl, ?_, rfl⟩
            rw [hst, if_pos c43]; rfl
          · refine Body.skip ?_
            refine Then.next ?_
            refine Body.region ?_
            refine Ops.u (Dtu.mv (lk rfl)) rfl ?_
            refine Ops.u (Dtu.mv (lk rfl)) rfl ?_
            refine Ops.u (Dtu.mv (lk rfl)) rfl ?_
            refine Ops.u (Dtu.ixa (i := 0) Try.underlying185 Try.sizeOf75 (lk rfl) (lk rfl) (by omega) (by omega)) rfl ?_
            refine Ops.e (Stp.store 0 Try.sizeOf75 (lk rfl) (lk rfl) rfl rfl rfl rfl rfl rfl rfl ?_)
            refine Ops.u (Dtu.asg (lk rfl)) rfl ?_
            refine Ops.nil ?_
            refine Blk.norm ?_
            refine Then.next ?_
            refine Body.region ?_
            refine Ops.u (Dtu.add (lk rfl) (lk rfl) (w64 (by omega) (by omega))) rfl ?_
            refine Ops.u (Dtu.mv (lk rfl)) rfl ?_
            refine Ops.nil ?_
            exact Round.goF (1, (getS bs ((q : Int) + 1)).2.1, (getS bs ((q : Int) + 1)).1, 0) rfl rfl rfl ⟨rfl, rfl, trivial⟩ rfl (.inr (.inl ⟨rfl, by omega⟩)) (by simp)
        · dsimp only
          refine Body.seq ?_
          refine Body.region ?_
          refine Ops.u (Dtu.lss (lk rfl) (lk rfl)) rfl ?_
          refine Ops.nil ?_
          refine Then.next ?_
          refine Body.seq ?_
          refine Body.condP (lk rfl) (fun _ => ?_) (fun hn => absurd (by first | omega | assumption | decide) hn)
          refine Body.skip ?_
          refine Then.next ?_
          refine Body.seq ?_
          refine Body.block ?_
          refine Body.seq ?_
          refine Body.region ?_
          refine Ops.u (Dtu.mv (lk rfl)) rfl ?_
          refine Ops.u (Dtu.asg (lk rfl)) rfl ?_
          refine Ops.nil ?_
          refine Then.next ?_
          refine Body.seq ?_
          refine Body.region ?_
          refine Ops.u (Dtu.mv (lk rfl)) rfl ?_
          refine Ops.u (Dtu.mv (lk rfl)) rfl ?_
          refine Ops.s (Stp.call rfl Try.call74 (lks rfl) (fun E' le hat => get_ok E' _ _ _ (Sl.mono (by assumption) le) (by assumption)) ?_) rfl
          rintro _ _ ⟨rfl, rfl⟩
          refine Ops.u (Dtu.mv (lk rfl)) rfl ?_
          refine Ops.u (Dtu.ext (lk rfl) rfl) rfl ?_
          refine Ops.u (Dtu.ext (lk rfl) rfl) rfl ?_
          refine Ops.u (Dtu.ext (lk rfl) rfl) rfl ?_
          refine Ops.u (Dtu.asg (lk rfl)) rfl ?_
          refine Ops.u (Dtu.asg (lk rfl)) rfl ?_
          refine Ops.u (Dtu.asg (lk rfl)) rfl ?_
          refine Ops.nil ?_
          refine Then.next ?_
          refine Body.seq ?_
          refine Body.seq ?_
          refine Body.region ?_
          refine Ops.u (Dtu.mv (lk rfl)) rfl ?_
          refine Ops.u (Dtu.neq (lk rfl) (lk rfl)) rfl ?_
          refine Ops.nil ?_
          refine Then.next ?_
          refine Body.condP (lk rfl) (fun c43 => ?_) (fun c43 => ?_)
          · refine Body.seq ?_
            refine Body.region ?_
            refine Ops.u (Dtu.build ty53 pl53 (lkp rfl) rfl rfl) rfl ?_
            refine Ops.u (Dtu.mv (lk rfl)) rfl ?_
            refine Ops.e (Stp.store 1 Try.sizeOf53 (lk rfl) (lk rfl) rfl rfl rfl rfl rfl rfl rfl ?_)
            refine Ops.u (Dtu.asg (lk rfl)) rfl ?_
            refine Ops.u (Dtu.asg (lk rfl)) rfl ?_
            refine Ops.nil ?_
            refine Then.next ?_
            refine Body.ret ?_
            refine Then.ret ?_
            refine Blk.ret ?_
            refine Then.ret ?_
            refine Round.ret ?_
            refine Blk.ret ?_
            refine Then.ret ?_
            refine ⟨.inr rfl, _, Loads.agg Try.isAgg53 Try.sizeOf53 (Rds.ow (m := 3) 1 rfl rfl) rfl, _, pk [] rfl, ?_, rfl⟩
            rw [hst, if_neg (by omega), if_pos c43]; rfl
          · refine Body.skip ?_
            refine Then.next ?_
            refine Body.region ?_
            refine Ops.u (Dtu.mv (lk rfl)) rfl ?_
            refine Ops.u (Dtu.mv (lk rfl)) rfl ?_
            refine Ops.u (Dtu.mv (lk rfl)) rfl ?_
            refine Ops.u (Dtu.ixa (i := 1) Try.underlying185 Try.sizeOf75 (lk rfl) (lk rfl) (by omega) (by omega)) rfl ?_
            refine Ops.e (Stp.store 0 Try.sizeOf75 (lk rfl) (lk rfl) rfl rfl rfl rfl rfl rfl rfl ?_)
            refine Ops.u (Dtu.asg (lk rfl)) rfl ?_
            refine Ops.nil ?_
            refine Blk.norm ?_
            refine Then.next ?_
            refine Body.region ?_
            refine Ops.u (Dtu.add (lk rfl) (lk rfl) (w64 (by omega) (by omega))) rfl ?_
            refine Ops.u (Dtu.mv (lk rfl)) rfl ?_
            refine Ops.nil ?_
            exact Round.goF (2, (getS bs (getS bs ((q : Int) + 1)).2.1).2.1, (getS bs ((q : Int) + 1)).1, (getS bs (getS bs ((q : Int) + 1)).2.1).1) rfl rfl rfl ⟨rfl, rfl, trivial⟩ rfl (.inr (.inr ⟨rfl, by omega, by omega⟩)) (by simp)
        · dsimp only
          refine Body.seq ?_
          refine Body.region ?_
          refine Ops.u (Dtu.lss (lk rfl) (lk rfl)) rfl ?_
          refine Ops.nil ?_
          refine Then.next ?_
          refine Body.seq ?_
          refine Body.condP (lk rfl) (fun hy => absurd hy (by first | omega | assumption | decide)) (fun _ => ?_)
          refine Body.exit ?_
          refine Then.exit ?_
          refine Round.exit ?_
          refine Blk.here ?_
          refine Then.next ?_
          refine Body.seq ?_
          refine Body.draw mixed ?_
          refine AB.u 0 rfl (by decide +kernel) (Dtu.mv (lk rfl)) rfl ?_
          refine AB.u 1 rfl (by decide +kernel) (Dtu.mv (lk rfl)) rfl ?_
          refine AB.u 2 rfl (by decide +kernel) (Dtu.ix (i := (q)) Try.underlying32 Try.sizeOf5 (Sl.up h) (lk rfl) (lk rfl) (by omega) (by omega)) rfl ?_
          refine AB.d 3 rfl (by decide +kernel) rfl (Det.ld Try.isAgg5 (lk rfl) (Rd.sl (Sl.up h) (gm (by omega)))) rfl ?_
          refine AB.u 4 rfl (by decide +kernel) (Dtu.ixa (i := 0) Try.underlying185 Try.sizeOf75 (lk rfl) (lk rfl) (by omega) (by omega)) rfl ?_
          refine AB.d 5 rfl (by decide +kernel) rfl (Det.ld Try.isAgg75 (lk rfl) (Rd.ow 0 rfl rfl)) rfl ?_
          refine AB.u 6 rfl (by decide +kernel) (Dtu.min (lk rfl) (lk rfl)) rfl ?_
          refine AB.u 7 rfl (by decide +kernel) (Dtu.cvt Try.underlying75 Try.underlying51 (lk rfl) (wu32 (by omega) (by omega))) rfl ?_
          refine AB.u 8 rfl (by decide +kernel) (Dtu.ixa (i := 1) Try.underlying185 Try.sizeOf75 (lk rfl) (lk rfl) (by omega) (by omega)) rfl ?_
          refine AB.d 9 rfl (by decide +kernel) rfl (Det.ld Try.isAgg75 (lk rfl) (Rd.ow 0 rfl rfl)) rfl ?_
          refine AB.u 10 rfl (by decide +kernel) (Dtu.min (lk rfl) (lk rfl)) rfl ?_
          refine AB.u 11 rfl (by decide +kernel) (Dtu.cvt Try.underlying75 Try.underlying51 (lk rfl) (wu32 (by omega) (by omega))) rfl ?_
          refine AB.u 12 rfl (by decide +kernel) (Dtu.build ty53 pl53 (lkp rfl) rfl rfl) rfl ?_
          refine AB.s 13 rfl (by decide +kernel) (by decide +kernel) (Stp.alloc ty53 (fun b13 => ?_)) rfl
          refine AB.e 14 rfl (by decide +kernel) (by decide +kernel) (Stp.store 0 Try.sizeOf53 (lk rfl) (lk rfl) rfl rfl rfl rfl rfl rfl rfl ?_)
          refine AB.done (by decide +kernel) ?_
          refine Then.next ?_
          refine Body.seq ?_
          refine Body.seq ?_
          refine Body.region ?_
          refine Ops.d (Det.lda Try.isAgg53 Try.sizeOf53 (lk rfl) (Rds.ow (m := 3) 0 rfl rfl) rfl) rfl ?_
          refine Ops.s (Stp.call rfl Try.call108 (lks rfl) (fun E' le hat => styleRight_ok E' _ _ _) ?_) rfl
          rintro _ _ ⟨rfl, rfl⟩
          refine Ops.u (Dtu.not (lk rfl)) rfl ?_
          refine Ops.nil ?_
          refine Then.next ?_
          refine Body.cond (lk rfl) (fun c66 => ?_) (fun c66 => ?_)
          · refine Body.seq ?_
            refine Body.region ?_
            refine Ops.u (Dtu.build ty53 pl53 (lkp rfl) rfl rfl) rfl ?_
            refine Ops.e (Stp.store 2 Try.sizeOf53 (lk rfl) (lk rfl) rfl rfl rfl rfl rfl rfl rfl ?_)
            refine Ops.u (Dtu.asg (lk rfl)) rfl ?_
            refine Ops.u (Dtu.asg (lk rfl)) rfl ?_
            refine Ops.nil ?_
            refine Then.next ?_
            refine Body.ret ?_
            refine Then.ret ?_
            refine ⟨.inr rfl, _, Loads.agg Try.isAgg53 Try.sizeOf53 (Rds.ow (m := 3) 2 rfl rfl) rfl, _, pk [] rfl, ?_, rfl⟩
            rw [hst, if_neg (by omega), if_neg (by omega), if_neg (fun hh => by have hh' : okSty (min (getS bs ((q : Int) + 1)).1 2147483648) (min (getS bs (getS bs ((q : Int) + 1)).2.1).1 2147483648) = true := hh; simp [hh'] at c66)]; rfl
          · refine Body.skip ?_
            refine Then.next ?_
            refine Body.seq ?_
            refine Body.region ?_
            refine Ops.d (Det.lda Try.isAgg53 Try.sizeOf53 (lk rfl) (Rds.ow (m := 3) 0 rfl rfl) rfl) rfl ?_
            refine Ops.u (Dtu.mv (lk rfl)) rfl ?_
            refine Ops.e (Stp.store 2 Try.sizeOf53 (lk rfl) (lk rfl) rfl rfl rfl rfl rfl rfl rfl ?_)
            refine Ops.u (Dtu.asg (lk rfl)) rfl ?_
            refine Ops.u (Dtu.asg (lk rfl)) rfl ?_
            refine Ops.nil ?_
            refine Then.next ?_
            refine Body.ret ?_
            refine ⟨.inr rfl, _, Loads.agg Try.isAgg53 Try.sizeOf53 (Rds.ow (m := 3) 2 rfl rfl) rfl, _, pk [] rfl, ?_, rfl⟩
            rw [hst, if_neg (by omega), if_neg (by omega), if_pos (by simpa [okSty] using c66)]; rfl
/-- a cell, the place behind it, an error -/
def cellR (bs : List Int) (at_ : Int) : Cell × Int × Int :=
  let s := styleR bs at_
  if s.2.2 ≠ 0 then (⟨0, 0, 0, 0⟩, 0, s.2.2)
  else
    let g := getS bs s.2.1
    if g.2.2 ≠ 0 then (⟨0, 0, 0, 0⟩, 0, g.2.2)
    else
      let c : Cell := ⟨min g.1 1114112, s.1.1, s.1.2.1, s.1.2.2⟩
      if c.ok then (c, g.2.1, 0) else (⟨0, 0, 0, 0⟩, 0, 3)
theorem getCell_ok (E : Env) (b : Value) (bs : List Int) (p : Int) (h : Sl E [] 1 b bs.length (bs.map (.int .u8))) (hb : Byt bs) : Does Try.prog 34 #[b, .int .i64 p] E [] fun r H' =>
    r = .tuple #[.agg (cellR bs p).1.enc.toArray, .int .i64 (cellR bs p).2.1, .int .i64 (cellR bs p).2.2] ∧ H' = [] := by
  refine Does.pure h.len fun hlen => ?_
  have hst : cellR bs p = (if (styleR bs p).2.2 ≠ 0 then (⟨0, 0, 0, 0⟩, 0, (styleR bs p).2.2) else if (getS bs (styleR bs p).2.1).2.2 ≠ 0 then (⟨0, 0, 0, 0⟩, 0, (getS bs (styleR bs p).2.1).2.2)
    else if (Cell.ok ⟨min (getS bs (styleR bs p).2.1).1 1114112, (styleR bs p).1.1, (styleR bs p).1.2.1, (styleR bs p).1.2.2⟩) then (⟨min (getS bs (styleR bs p).2.1).1 1114112, (styleR bs p).1.1, (styleR bs p).1.2.1, (styleR bs p).1.2.2⟩, (getS bs (styleR bs p).2.1).2.1, 0) else (⟨0, 0, 0, 0⟩, 0, 3)) := rfl
  have a1 := getS_bound bs hb (styleR bs p).2.1
  refine Does.go (args := [b, .int .i64 p]) _ _ Try.func34 rfl Try.ntmps34 rfl rfl ?_
  refine Body.seq ?_
  refine Body.region ?_
  refine Ops.s (Stp.alloc ty55 (fun b4 => ?_)) rfl
  refine Ops.u (Dtu.asg (lk rfl)) rfl ?_
  refine Ops.u (Dtu.asg (lk rfl)) rfl ?_
  refine Ops.nil ?_
  refine Then.next ?_
  refine Body.seq ?_
  refine Body.region ?_
  refine Ops.u (Dtu.mv (lk rfl)) rfl ?_
  refine Ops.u (Dtu.mv (lk rfl)) rfl ?_
  refine Ops.s (Stp.call rfl Try.call78 (lks rfl) (fun E' le hat => styleRead_ok E' _ _ _ (Sl.mono (by assumption) le) (by assumption)) ?_) rfl
  rintro _ _ ⟨rfl, rfl⟩
  refine Ops.u (Dtu.mv (lk rfl)) rfl ?_
  refine Ops.u (Dtu.ext (lk rfl) rfl) rfl ?_
  refine Ops.u (Dtu.ext (lk rfl) rfl) rfl ?_
  refine Ops.u (Dtu.ext (lk rfl) rfl) rfl ?_
  refine Ops.s (Stp.alloc ty53 (fun b7 => ?_)) rfl
  refine Ops.e (Stp.store 0 Try.sizeOf53 (lk rfl) (lk rfl) rfl rfl rfl rfl rfl rfl rfl ?_)
  refine Ops.u (Dtu.asg (lk rfl)) rfl ?_
  refine Ops.u (Dtu.asg (lk rfl)) rfl ?_
  refine Ops.nil ?_
  refine Then.next ?_
  refine Body.seq ?_
  refine Body.seq ?_
  refine Body.region ?_
  refine Ops.u (Dtu.mv (lk rfl)) rfl ?_
  refine Ops.u (Dtu.neq (lk rfl) (lk rfl)) rfl ?_
  refine Ops.nil ?_
  refine Then.next ?_
  refine Body.condP (lk rfl) (fun c20 => ?_) (fun c20 => ?_)
  · refine Body.seq ?_
    refine Body.region ?_
    refine Ops.u (Dtu.build ty55 pl55 (lkp rfl) rfl rfl) rfl ?_
    refine Ops.u (Dtu.mv (lk rfl)) rfl ?_
    refine Ops.e (Stp.store 1 Try.sizeOf55 (lk rfl) (lk rfl) rfl rfl rfl rfl rfl rfl rfl ?_)
    refine Ops.u (Dtu.asg (lk rfl)) rfl ?_
    refine Ops.u (Dtu.asg (lk rfl)) rfl ?_
    refine Ops.nil ?_
    refine Then.next ?_
    refine Body.ret ?_
    refine Then.ret ?_
    refine ⟨.inr rfl, _, Loads.agg Try.isAgg55 Try.sizeOf55 (Rds.ow (m := 4) 1 rfl rfl) rfl, _, pk [] rfl, ?_, rfl⟩
    rw [hst, if_pos c20]; rfl
  · refine Body.skip ?_
    refine Then.next ?_
    refine Body.seq ?_
    refine Body.region ?_
    refine Ops.u (Dtu.mv (lk rfl)) rfl ?_
    refine Ops.u (Dtu.mv (lk rfl)) rfl ?_
    refine Ops.s (Stp.call rfl Try.call74 (lks rfl) (fun E' le hat => get_ok E' _ _ _ (Sl.mono (by assumption) le) (by assumption)) ?_) rfl
    rintro _ _ ⟨rfl, rfl⟩
    refine Ops.u (Dtu.mv (lk rfl)) rfl ?_
    refine Ops.u (Dtu.ext (lk rfl) rfl) rfl ?_
    refine Ops.u (Dtu.ext (lk rfl) rfl) rfl ?_
    refine Ops.u (Dtu.ext (lk rfl) rfl) rfl ?_
    refine Ops.u (Dtu.asg (lk rfl)) rfl ?_
    refine Ops.u (Dtu.asg (lk rfl)) rfl ?_
    refine Ops.u (Dtu.asg (lk rfl)) rfl ?_
    refine Ops.nil ?_
    refine Then.next ?_
    refine Body.seq ?_
    refine Body.seq ?_
    refine Body.region ?_
    refine Ops.u (Dtu.mv (lk rfl)) rfl ?_
    refine Ops.u (Dtu.neq (lk rfl) (lk rfl)) rfl ?_
    refine Ops.nil ?_
    refine Then.next ?_
    refine Body.condP (lk rfl) (fun c31 => ?_) (fun c31 => ?_)
    · refine Body.seq ?_
      refine Body.region ?_
      refine Ops.u (Dtu.build ty55 pl55 (lkp rfl) rfl rfl) rfl ?_
      refine Ops.u (Dtu.mv (lk rfl)) rfl ?_
      refine Ops.e (Stp.store 1 Try.sizeOf55 (lk rfl) (lk rfl) rfl rfl rfl rfl rfl rfl rfl ?_)
      refine Ops.u (Dtu.asg (lk rfl)) rfl ?_
      refine Ops.u (Dtu.asg (lk rfl)) rfl ?_
      refine Ops.nil ?_
      refine Then.next ?_
      refine Body.ret ?_
      refine Then.ret ?_
      refine ⟨.inr rfl, _, Loads.agg Try.isAgg55 Try.sizeOf55 (Rds.ow (m := 4) 1 rfl rfl) rfl, _, pk [] rfl, ?_, rfl⟩
      rw [hst, if_neg (by omega), if_pos c31]; rfl
    · refine Body.skip ?_
      refine Then.next ?_
      refine Body.seq ?_
      refine Body.region ?_
      refine Ops.u (Dtu.mv (lk rfl)) rfl ?_
      refine Ops.u (Dtu.min (lk rfl) (lk rfl)) rfl ?_
      refine Ops.u (Dtu.cvt Try.underlying75 Try.underlying21 (lk rfl) (w32 (by omega) (by omega))) rfl ?_
      refine Ops.d (Det.lda Try.isAgg53 Try.sizeOf53 (lk rfl) (Rds.ow (m := 3) 0 rfl rfl) rfl) rfl ?_
      refine Ops.u (Dtu.build ty55 pl55 (lkp rfl) rfl rfl) rfl ?_
      refine Ops.s (Stp.alloc ty55 (fun b11 => ?_)) rfl
      refine Ops.e (Stp.store 0 Try.sizeOf55 (lk rfl) (lk rfl) rfl rfl rfl rfl rfl rfl rfl ?_)
      refine Ops.nil ?_
      refine Then.next ?_
      refine Body.seq ?_
      refine Body.seq ?_
      refine Body.region ?_
      refine Ops.d (Det.lda Try.isAgg55 Try.sizeOf55 (lk rfl) (Rds.ow (m := 4) 0 rfl rfl) rfl) rfl ?_
      refine Ops.s (Stp.call rfl Try.call70 (lks rfl) (fun E' le hat => isCell_ok E' _ _ _ _) ?_) rfl
      rintro _ _ ⟨rfl, rfl⟩
      refine Ops.u (Dtu.not (lk rfl)) rfl ?_
      refine Ops.nil ?_
      refine Then.next ?_
      refine Body.cond (lk rfl) (fun c41 => ?_) (fun c41 => ?_)
      · refine Body.seq ?_
        refine Body.region ?_
        refine Ops.u (Dtu.build ty55 pl55 (lkp rfl) rfl rfl) rfl ?_
        refine Ops.e (Stp.store 2 Try.sizeOf55 (lk rfl) (lk rfl) rfl rfl rfl rfl rfl rfl rfl ?_)
        refine Ops.u (Dtu.asg (lk rfl)) rfl ?_
        refine Ops.u (Dtu.asg (lk rfl)) rfl ?_
        refine Ops.nil ?_
        refine Then.next ?_
        refine Body.ret ?_
        refine Then.ret ?_
        refine ⟨.inr rfl, _, Loads.agg Try.isAgg55 Try.sizeOf55 (Rds.ow (m := 4) 2 rfl rfl) rfl, _, pk [] rfl, ?_, rfl⟩
        rw [hst, if_neg (by omega), if_neg (by omega), if_neg (by simpa using c41)]; rfl
      · refine Body.skip ?_
        refine Then.next ?_
        refine Body.seq ?_
        refine Body.region ?_
        refine Ops.d (Det.lda Try.isAgg55 Try.sizeOf55 (lk rfl) (Rds.ow (m := 4) 0 rfl rfl) rfl) rfl ?_
        refine Ops.u (Dtu.mv (lk rfl)) rfl ?_
        refine Ops.e (Stp.store 2 Try.sizeOf55 (lk rfl) (lk rfl) rfl rfl rfl rfl rfl rfl rfl ?_)
        refine Ops.u (Dtu.asg (lk rfl)) rfl ?_
        refine Ops.u (Dtu.asg (lk rfl)) rfl ?_
        refine Ops.nil ?_
        refine Then.next ?_
        refine Body.ret ?_
        refine ⟨.inr rfl, _, Loads.agg Try.isAgg55 Try.sizeOf55 (Rds.ow (m := 4) 2 rfl rfl) rfl, _, pk [] rfl, ?_, rfl⟩
        rw [hst, if_neg (by omega), if_neg (by omega), if_pos (by simpa using c41)]; rfl
end Go.Proofs.Ytijjjdljdjnbaaa
end
section
/- What is written are bytes. -/
namespace Go.Proofs.Ytijjjdljdjnbaaa
set_option maxRecDepth 100000
set_option linter.unusedVariables false
set_option linter.unusedSimpArgs false
open Go.Sx

def BytM (l : List Int) : Prop := ∀ x ∈ l, 0 ≤ x ∧ x < 256
theorem Byt.mem {l : List Int} (h : Byt l) : BytM l := fun x hx => by
  obtain ⟨i, hi, rfl⟩ := List.getElem_of_mem hx
  have := h i hi
  rwa [getElem!_pos l i hi] at this
theorem BytM.byt {l : List Int} (h : BytM l) : Byt l := fun i hi => by
  rw [getElem!_pos l i hi]; exact h _ (List.getElem_mem hi)
theorem BytM.append {l k : List Int} (h : BytM l) (h2 : BytM k) : BytM (l ++ k) := fun x hx => by
  rcases List.mem_append.1 hx with h1 | h1
  · exact h x h1
  · exact h2 x h1
theorem BytM.cons {x : Int} {k : List Int} (h : 0 ≤ x ∧ x < 256) (h2 : BytM k) : BytM (x :: k) := fun y hy => by
  rcases List.mem_cons.1 hy with rfl | h1
  · exact h
  · exact h2 y h1
theorem BytM.nil : BytM [] := fun x hx => by simp at hx
theorem putL_byt {v : Int} (h0 : 0 ≤ v) (h1 : v < 4611686018427387904) : BytM (putL v) := fun x hx => by
  have hz := sizeS_pos h1
  obtain ⟨hb0, hb1⟩ := byte0_lt v h0 (by omega)
  obtain ⟨hc, _⟩ := class_of_size (v := v) (by omega)
  simp only [putL, List.mem_map, List.mem_range] at hx
  obtain ⟨j, hj, rfl⟩ := hx
  by_cases e : j = 0
  · subst e; simp only [if_true]; omega
  · simp only [e, if_false]
    unfold byteAt
    omega
def Cell.Fl (c : Cell) : Prop := 0 ≤ c.fl ∧ c.fl < 256
theorem Cell.bytes_byt {c : Cell} (h : c.ok = true) (hf : c.Fl) : BytM c.bytes := by
  have hk : isPt c.pt = true ∧ isCol c.fg = true ∧ isCol c.bg = true := by simpa [Cell.ok, okCell, okSty] using h
  have b1 := isPt_bound hk.1
  have b2 := isCol_bound hk.2.1
  have b3 := isCol_bound hk.2.2
  exact .append (.append (.cons hf .nil) (.append (putL_byt (by omega) (by omega)) (putL_byt (by omega) (by omega)))) (putL_byt (by omega) (by omega))
theorem runsFrom_byt : ∀ (t : List Cell) (c : Cell) (n : Nat), c.ok = true → c.Fl → (∀ d ∈ t, d.ok = true ∧ d.Fl) → n + t.length < 4611686018427387904 → BytM (runsFrom c n t)
  | [], c, n, h, hf, _, hn => .append (putL_byt (by omega) (by simp at hn; omega)) (c.bytes_byt h hf)
  | d :: t, c, n, h, hf, hall, hn => by
    have hd := hall d (by simp)
    simp only [List.length_cons] at hn
    simp only [runsFrom]
    split
    · exact runsFrom_byt t c (n + 1) h hf (fun e he => hall e (by simp [he])) (by omega)
    · exact .append (.append (putL_byt (by omega) (by omega)) (c.bytes_byt h hf)) (runsFrom_byt t d 1 hd.1 hd.2 (fun e he => hall e (by simp [he])) (by omega))
theorem runsB_byt {l : List Cell} (h : ∀ d ∈ l, d.ok = true ∧ d.Fl) (hn : l.length < 4611686018427387904) : BytM (runsB l) := by
  cases l with
  | nil => exact .nil
  | cons c t => exact runsFrom_byt t c 1 (h c (by simp)).1 (h c (by simp)).2 (fun d hd => h d (by simp [hd])) (by simp at hn; omega)
theorem View.ok_fits {v : View} (h : v.ok = true) : v.fits ∧ ∀ c ∈ v.cells, c.ok = true := by
  simp only [View.ok, Bool.and_eq_true, decide_eq_true_eq, List.all_eq_true] at h
  exact h
theorem View.bytes_byt {v : View} (h : v.ok = true) (hf : ∀ c ∈ v.cells, c.Fl) : Byt v.bytes := by
  obtain ⟨⟨hrc, f1, f2, f3, f4, f5⟩, hc⟩ := View.ok_fits h
  have hm := mul_bound hrc
  refine BytM.byt (.append (.cons (by omega) (.cons (by omega) (.cons (by omega) (.cons (by omega) (.cons ?_ .nil))))) (runsB_byt (fun d hd => ⟨hc d hd, hf d hd⟩) (by omega)))
  split <;> omega
theorem styleR_fl (bs : List Int) (hb : Byt bs) (p : Int) : 0 ≤ (styleR bs p).1.1 ∧ (styleR bs p).1.1 < 256 := by
  unfold styleR
  split
  · simp
  · split
    · simp
    · rename_i h1 h2
      have := hb p.toNat (by omega)
      dsimp only
      (repeat' split) <;> first | exact this | simp
theorem cellR_fl (bs : List Int) (hb : Byt bs) (p : Int) : (cellR bs p).1.Fl := by
  have := styleR_fl bs hb p
  unfold cellR Cell.Fl
  dsimp only
  (repeat' split) <;> first | exact this | simp
theorem styleR_next (bs : List Int) (p : Int) : (styleR bs p).2.2 = 0 → 0 ≤ p ∧ p < (styleR bs p).2.1 ∧ (styleR bs p).2.1 ≤ bs.length := by
  unfold styleR
  have g1 := getS_next bs (p + 1)
  have g2 := getS_next bs (getS bs (p + 1)).2.1
  dsimp only
  (repeat' split) <;> intro h <;> first | (simp at h; done) | (dsimp only at h ⊢; omega)
theorem cellR_next (bs : List Int) (p : Int) : (cellR bs p).2.2 = 0 → 0 ≤ p ∧ p < (cellR bs p).2.1 ∧ (cellR bs p).2.1 ≤ bs.length := by
  unfold cellR
  have g1 := styleR_next bs p
  have g2 := getS_next bs (styleR bs p).2.1
  dsimp only
  (repeat' split) <;> intro h <;> first | (simp at h; done) | (dsimp only at h ⊢; omega)
end Go.Proofs.Ytijjjdljdjnbaaa
end
section
/- What bytes are read as: a view. -/
namespace Go.Proofs.Ytijjjdljdjnbaaa
set_option maxRecDepth 100000
set_option linter.unusedVariables false
set_option linter.unusedSimpArgs false
open Go.Sx

theorem bytesEqual_ok (E : Env) (s t : Value) (xs ys : List Int) (hx : Sl E [] 1 s xs.length (xs.map (.int .u8))) (hy : Sl E [] 1 t ys.length (ys.map (.int .u8))) (bx : Byt xs) (by_ : Byt ys) : Does Try.prog 65 #[s, t] E [] fun r H' => r = .bool (decide (xs = ys)) ∧ H' = [] := by
  refine Does.go (args := [s, t]) _ _ Try.func65 rfl Try.ntmps65 rfl rfl ?_
  refine Body.seq ?_
  refine Body.region ?_
  refine Ops.u (Dtu.asg (lk rfl)) rfl ?_
  refine Ops.nil ?_
  refine Then.next ?_
  refine Body.seq ?_
  refine Body.region ?_
  refine Ops.u (Dtu.mv (lk rfl)) rfl ?_
  refine Ops.d (Det.bstr Try.underlying32 Try.underlying5 Try.underlying9 (lk rfl) (Sl.up hx)) rfl ?_
  refine Ops.u (Dtu.mv (lk rfl)) rfl ?_
  refine Ops.d (Det.bstr Try.underlying32 Try.underlying5 Try.underlying9 (lk rfl) (Sl.up hy)) rfl ?_
  refine Ops.u (Dtu.eqStr (lk rfl) (lk rfl)) rfl ?_
  refine Ops.u (Dtu.asg (lk rfl)) rfl ?_
  refine Ops.nil ?_
  refine Then.next ?_
  refine Body.ret ?_
  refine ⟨.inr rfl, _, pk [] rfl, bool_eq ?_, rfl⟩
  rw [decide_eq_true_iff, decide_eq_true_iff, strOfNums_inj bx by_]
end Go.Proofs.Ytijjjdljdjnbaaa
end
section
/- What comes of the fixed calls of longlinelaw20. -/
namespace Go.Proofs.Ytijjjdljdjnbaaa
set_option maxRecDepth 100000
set_option linter.unusedVariables false
set_option linter.unusedSimpArgs false
open Go.Sx

theorem slNone (E : Env) (sz : Nat) : Sl E [] sz (.slice none 0 0) 0 [] := fun w s => ⟨by simp, by decide, .inl ⟨rfl, none, 0, rfl, by decide⟩⟩
end Go.Proofs.Ytijjjdljdjnbaaa
end
