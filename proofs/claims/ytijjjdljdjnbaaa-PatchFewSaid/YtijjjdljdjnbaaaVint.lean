/- Numbers in one, two, four or eight bytes: what the functions of package vint come to. -/
import Derived.Test.YtijjjdljdjnbaaaTy
namespace Go.Proofs.Ytijjjdljdjnbaaa
set_option maxRecDepth 100000
set_option linter.unusedVariables false
set_option linter.unusedSimpArgs false
open Go.Sx

theorem tops_ok (E : Env) : Does Try.prog 132 (#[] : Array Value) E [] fun r H' => r = .agg ([.int .u64 64, .int .u64 16384, .int .u64 1073741824, .int .u64 4611686018427387904] : List Value).toArray ∧ H' = [] := by
  refine Does.go (args := []) _ _ Try.func132 rfl Try.ntmps132 rfl rfl ?_
  refine Body.seq ?_
  refine Body.region ?_
  refine Ops.s (Stp.alloc ty209 (fun b0 => ?_)) rfl
  refine Ops.nil ?_
  refine Then.next ?_
  refine Body.seq ?_
  refine Body.region ?_
  refine Ops.u (Dtu.buildArr ty209 Try.underlying209 Try.sizeOf75 (lkp rfl) rfl rfl) rfl ?_
  refine Ops.e (Stp.store 0 Try.sizeOf209 (lk rfl) (lk rfl) rfl rfl rfl rfl rfl rfl rfl ?_)
  refine Ops.nil ?_
  refine Then.next ?_
  refine Body.ret ?_
  refine ⟨.inr rfl, _, Loads.agg Try.isAgg209 Try.sizeOf209 (Rds.ow (m := 4) 0 rfl rfl) rfl, _, pk [] rfl, rfl, rfl⟩

def topsL : List Value := [.int .u64 64, .int .u64 16384, .int .u64 1073741824, .int .u64 4611686018427387904]
def topsN (i : Nat) : Int := match i with | 0 => 64 | 1 => 16384 | 2 => 1073741824 | _ => 4611686018427387904
theorem tops_get (i : Nat) (h : i < 4) : topsL[0 + i * 1]? = some (.int .u64 (topsN i)) := by
  match i, h with
  | 0, _ => rfl
  | 1, _ => rfl
  | 2, _ => rfl
  | 3, _ => rfl
def classS (v : Int) : Nat := if v < 64 then 0 else if v < 16384 then 1 else if v < 1073741824 then 2 else if v < 4611686018427387904 then 3 else 4
theorem classS_of (v : Int) (i : Nat) (h : i < 4) (h1 : v < topsN i) (h2 : ∀ j, j < i → topsN j ≤ v) : classS v = i := by
  unfold classS
  match i, h with
  | 0, _ => simp only [topsN] at h1; simp [h1]
  | 1, _ => have := h2 0 (by omega); simp only [topsN] at *; repeat (first | rw [if_pos (by omega)] | rw [if_neg (by omega)])
  | 2, _ => have := h2 0 (by omega); have := h2 1 (by omega); simp only [topsN] at *; repeat (first | rw [if_pos (by omega)] | rw [if_neg (by omega)])
  | 3, _ => have := h2 0 (by omega); have := h2 1 (by omega); have := h2 2 (by omega); simp only [topsN] at *; repeat (first | rw [if_pos (by omega)] | rw [if_neg (by omega)])
theorem classS_4 (v : Int) (h2 : ∀ j, j < 4 → topsN j ≤ v) : classS v = 4 := by
  unfold classS
  have := h2 0 (by omega); have := h2 1 (by omega); have := h2 2 (by omega); have := h2 3 (by omega); simp only [topsN] at *; repeat (first | rw [if_pos (by omega)] | rw [if_neg (by omega)])
theorem classS_le (v : Int) : classS v ≤ 4 := by unfold classS; (repeat' split) <;> omega

theorem class_ok (E : Env) (v : Int) : Does Try.prog 115 #[.int .u64 v] E [] fun r H' => r = .int .i64 (classS v) ∧ H' = [] := by
  refine Does.go (args := [.int .u64 v]) _ _ Try.func115 rfl Try.ntmps115 rfl rfl ?_
  refine Body.seq ?_
  refine Body.region ?_
  refine Ops.u (Dtu.asg (lk rfl)) rfl ?_
  refine Ops.nil ?_
  refine Then.next ?_
  refine Body.scope ?_
  refine Body.seq ?_
  refine Body.region ?_
  refine Ops.s (Stp.call rfl Try.call132 (lks rfl) (fun E' le hat => tops_ok E') ?_) rfl
  rintro _ _ ⟨rfl, rfl⟩
  refine Ops.s (Stp.alloc ty209 (fun b3 => ?_)) rfl
  refine Ops.e (Stp.store 0 Try.sizeOf209 (lk rfl) (lk rfl) rfl rfl rfl rfl rfl rfl rfl ?_)
  refine Ops.nil ?_
  refine Then.next ?_
  refine Body.seq ?_
  refine Body.region ?_
  refine Ops.u (Dtu.asg (lk rfl)) rfl ?_
  refine Ops.nil ?_
  refine Then.next ?_
  refine Body.seq ?_
  refine Body.label ?_
  refine Then.next ?_
  refine Body.seq ?_
  refine Body.block ?_
  refine Body.loopF (γ := Nat) rfl (fun i => [(4, .int .i64 i)]) (fun _ => [own b3 topsL 209]) (fun i => i ≤ 4 ∧ ∀ j, j < i → topsN j ≤ v) (fun i => 4 - i) 0 ⟨by omega, fun _ h => by omega⟩ ⟨rfl, trivial⟩ rfl ?_
  rintro i u ⟨h0, h1⟩
  refine Body.seq ?_
  refine Body.seq ?_
  refine Body.region ?_
  refine Ops.u (Dtu.mv (lk rfl)) rfl ?_
  refine Ops.u (Dtu.lss (lk rfl) (lk rfl)) rfl ?_
  refine Ops.nil ?_
  refine Then.next ?_
  refine Body.condP (lk rfl) (fun c7 => ?_) (fun c7 => ?_)
  · refine Body.skip ?_
    refine Then.next ?_
    refine Body.block ?_
    refine Body.seq ?_
    refine Body.seq ?_
    refine Body.region ?_
    refine Ops.u (Dtu.mv (lk rfl)) rfl ?_
    refine Ops.u (Dtu.mv (lk rfl)) rfl ?_
    refine Ops.u (Dtu.ixa (i := (i)) Try.underlying209 Try.sizeOf75 (lk rfl) (lk rfl) (by omega) (by omega)) rfl ?_
    refine Ops.d (Det.ld Try.isAgg75 (lk rfl) (Rd.ow 0 rfl (tops_get i (by omega)))) rfl ?_
    refine Ops.u (Dtu.lss (lk rfl) (lk rfl)) rfl ?_
    refine Ops.nil ?_
    refine Then.next ?_
    refine Body.condP (lk rfl) (fun c12 => ?_) (fun c12 => ?_)
    · refine Body.exit ?_
      refine Then.exit ?_
      refine Blk.past rfl ?_
      refine Round.exit ?_
      refine Blk.here ?_
      refine Then.next ?_
      refine Body.seq ?_
      refine Body.region ?_
      refine Ops.u (Dtu.mv (lk rfl)) rfl ?_
      refine Ops.u (Dtu.asg (lk rfl)) rfl ?_
      refine Ops.nil ?_
      refine Then.next ?_
      refine Body.ret ?_
      refine ⟨.inr rfl, _, pk [] rfl, ?_, rfl⟩
      rw [classS_of v i (by omega) c12 h1]; rfl
    · refine Body.skip ?_
      refine Then.next ?_
      refine Body.region ?_
      refine Ops.u (Dtu.mv (lk rfl)) rfl ?_
      refine Ops.u (Dtu.add (lk rfl) (lk rfl) (w64 (by omega) (by omega))) rfl ?_
      refine Ops.u (Dtu.asg (lk rfl)) rfl ?_
      refine Ops.nil ?_
      refine Blk.norm ?_
      exact Round.goF (i + 1) rfl rfl rfl ⟨rfl, trivial⟩ rfl ⟨by omega, fun j hj => by
        by_cases e : j = i
        · subst e; omega
        · exact h1 j (by omega)⟩ (by omega)
  · refine Body.exit ?_
    refine Then.exit ?_
    refine Round.exit ?_
    refine Blk.here ?_
    refine Then.next ?_
    refine Body.seq ?_
    refine Body.region ?_
    refine Ops.u (Dtu.mv (lk rfl)) rfl ?_
    refine Ops.u (Dtu.asg (lk rfl)) rfl ?_
    refine Ops.nil ?_
    refine Then.next ?_
    refine Body.ret ?_
    refine ⟨.inr rfl, _, pk [] rfl, ?_, rfl⟩
    rw [classS_4 v (fun j hj => h1 j (by omega)), show i = 4 by omega]; rfl

/-- how many bytes a number has; 0: it has none -/
def sizeS (v : Int) : Nat := if classS v = 4 then 0 else 2 ^ classS v
theorem sizeS_le (v : Int) : sizeS v ≤ 8 := by
  unfold sizeS classS; (repeat' split) <;> simp_all
theorem size_ok (E : Env) (v : Int) : Does Try.prog 114 #[.int .u64 v] E [] fun r H' => r = .int .i64 (sizeS v) ∧ H' = [] := by
  refine Does.go (args := [.int .u64 v]) _ _ Try.func114 rfl Try.ntmps114 rfl rfl ?_
  refine Body.seq ?_
  refine Body.region ?_
  refine Ops.u (Dtu.asg (lk rfl)) rfl ?_
  refine Ops.nil ?_
  refine Then.next ?_
  refine Body.seq ?_
  refine Body.region ?_
  refine Ops.u (Dtu.mv (lk rfl)) rfl ?_
  refine Ops.s (Stp.call rfl Try.call115 (lks rfl) (fun E' le hat => class_ok E' _) ?_) rfl
  rintro _ _ ⟨rfl, rfl⟩
  refine Ops.u (Dtu.asg (lk rfl)) rfl ?_
  refine Ops.nil ?_
  refine Then.next ?_
  refine Body.seq ?_
  refine Body.seq ?_
  refine Body.region ?_
  refine Ops.u (Dtu.mv (lk rfl)) rfl ?_
  refine Ops.u (Dtu.eql (lk rfl) (lk rfl)) rfl ?_
  refine Ops.nil ?_
  refine Then.next ?_
  refine Body.condP (lk rfl) (fun c7 => ?_) (fun c7 => ?_)
  · refine Body.seq ?_
    refine Body.region ?_
    refine Ops.u (Dtu.asg (lk rfl)) rfl ?_
    refine Ops.nil ?_
    refine Then.next ?_
    refine Body.ret ?_
    refine Then.ret ?_
    refine ⟨.inr rfl, _, pk [] rfl, ?_, rfl⟩
    unfold sizeS; rw [if_pos (by omega)]; rfl
  · refine Body.skip ?_
    refine Then.next ?_
    refine Body.seq ?_
    refine Body.region ?_
    refine Ops.u (Dtu.mv (lk rfl)) rfl ?_
    refine Ops.u (Dtu.shl (lk rfl) (lk rfl) (by first | decide | omega) rfl) rfl ?_
    refine Ops.u (Dtu.asg (lk rfl)) rfl ?_
    refine Ops.nil ?_
    refine Then.next ?_
    refine Body.ret ?_
    refine ⟨.inr rfl, _, pk [] rfl, ?_, rfl⟩
    have h4 := classS_le v
    unfold sizeS; rw [if_neg (by omega)]
    have : classS v < 4 := by omega
    generalize classS v = c at *
    match c, this with
    | 0, _ => rfl
    | 1, _ => rfl
    | 2, _ => rfl
    | 3, _ => rfl

/-- the j-th of n bytes, the highest first -/
def byteAt (v : Int) (n j : Nat) : Int := v / 256 ^ (n - 1 - j) % 256
def putL (v : Int) : List Int := (List.range (sizeS v)).map fun j => byteAt v (sizeS v) j + if j = 0 then 64 * (classS v : Int) else 0
/-- k bytes have been laid, from the last on -/
def laid (v : Int) (n k : Nat) : List Int := (List.range n).map fun j => if n - k ≤ j then byteAt v n j else 0
theorem laid_0 (v : Int) (n : Nat) : List.replicate n (0 : Int) = laid v n 0 := by
  apply List.ext_getElem
  · simp [laid]
  · intro j h1 h2
    simp only [List.length_replicate] at h1
    simp [laid, show ¬ n ≤ j by omega]
theorem laid_step (v : Int) (n k : Nat) (hk : k < n) : (laid v n k).set (n - 1 - k) (v / 256 ^ k % 256) = laid v n (k + 1) := by
  apply List.ext_getElem
  · simp [laid]
  · intro j h1 h2
    simp only [laid, List.length_set, List.length_map, List.length_range] at h1
    rw [List.getElem_set]
    simp only [laid, List.getElem_map, List.getElem_range]
    by_cases h : n - 1 - k = j
    · rw [if_pos h, if_pos (by omega)]; unfold byteAt; rw [show n - 1 - j = k by omega]
    · rw [if_neg h]
      by_cases h3 : n - k ≤ j
      · rw [if_pos h3, if_pos (by omega)]
      · rw [if_neg h3, if_neg (by omega)]
theorem fdiv8 (n : Int) : n.fdiv (2 ^ (min (8 : Int).toNat IntKind.u64.bits)) = n / 256 := by
  have : (2 : Int) ^ (min (8 : Int).toNat IntKind.u64.bits) = 256 := by decide
  rw [this, Int.fdiv_eq_ediv_of_nonneg _ (by omega)]
theorem wrap_u8 (n : Int) : IntKind.u8.wrap n = n % 256 := by
  simp only [IntKind.wrap, IntKind.bits, IntKind.signed]; simp

theorem or_high : ∀ a : Fin 64, ∀ c : Fin 4, ibit .or .u8 (a.val : Int) (IntKind.u8.wrap (IntKind.u8.wrap (c.val : Int) * 2 ^ (min (6 : Int).toNat IntKind.u8.bits))) = (a.val : Int) + 64 * (c.val : Int) := by decide +kernel
theorem class_of_size {v : Int} (h : sizeS v ≠ 0) : classS v < 4 ∧ sizeS v = 2 ^ classS v := by
  have := classS_le v
  unfold sizeS at *
  split at h
  · omega
  · rename_i h4; rw [if_neg h4]; exact ⟨by omega, rfl⟩
theorem byte0_lt (v : Int) (h0 : 0 ≤ v) (hz : sizeS v ≠ 0) : 0 ≤ byteAt v (sizeS v) 0 ∧ byteAt v (sizeS v) 0 < 64 := by
  unfold byteAt sizeS classS at *
  split
  · simp; omega
  · split
    · simp; omega
    · split
      · simp; omega
      · split
        · simp; omega
        · rename_i h1 h2 h3 h4; simp [h1, h2, h3, h4] at hz
theorem put_last (v : Int) (h0 : 0 ≤ v) (hz : sizeS v ≠ 0) :
    (laid v (sizeS v) (sizeS v)).set 0 (ibit .or .u8 (laid v (sizeS v) (sizeS v))[0]! (IntKind.u8.wrap (IntKind.u8.wrap (classS v : Int) * 2 ^ (min (6 : Int).toNat IntKind.u8.bits)))) = putL v := by
  obtain ⟨hc, _⟩ := class_of_size hz
  obtain ⟨hb0, hb1⟩ := byte0_lt v h0 hz
  have e0 : (laid v (sizeS v) (sizeS v))[0]! = byteAt v (sizeS v) 0 := by
    rw [getElem!_pos _ 0 (by simp [laid]; omega)]; simp [laid]
  have h := or_high ⟨(byteAt v (sizeS v) 0).toNat, by omega⟩ ⟨classS v, hc⟩
  simp only [Int.toNat_of_nonneg hb0] at h
  rw [e0, h]
  apply List.ext_getElem
  · simp [laid, putL]
  · intro j h1 h2
    rw [List.getElem_set]
    simp only [laid, putL, List.getElem_map, List.getElem_range]
    by_cases hj : 0 = j
    · subst hj; simp
    · rw [if_neg hj, if_pos (by omega), if_neg (by omega)]; omega
theorem putL_len (v : Int) : (putL v).length = sizeS v := by simp [putL]

theorem put_ok (E : Env) (v : Int) (h0 : 0 ≤ v) : Does Try.prog 73 #[.int .u64 v] E [] fun r H' =>
    (sizeS v = 0 ∧ r = .tuple #[.slice none 0 0, .int .i64 11] ∧ H' = []) ∨ (sizeS v ≠ 0 ∧ ∃ s, r = .tuple #[s, .int .i64 0] ∧ H' = [osl 5 1 s (sizeS v) ((putL v).map (.int .u8))]) := by
  refine Does.go (args := [.int .u64 v]) _ _ Try.func73 rfl Try.ntmps73 rfl rfl ?_
  refine Body.seq ?_
  refine Body.region ?_
  refine Ops.u (Dtu.asg (lk rfl)) rfl ?_
  refine Ops.u (Dtu.asg (lk rfl)) rfl ?_
  refine Ops.nil ?_
  refine Then.next ?_
  refine Body.seq ?_
  refine Body.region ?_
  refine Ops.u (Dtu.mv (lk rfl)) rfl ?_
  refine Ops.s (Stp.call rfl Try.call114 (lks rfl) (fun E' le hat => size_ok E' _) ?_) rfl
  rintro _ _ ⟨rfl, rfl⟩
  refine Ops.u (Dtu.asg (lk rfl)) rfl ?_
  refine Ops.nil ?_
  refine Then.next ?_
  refine Body.seq ?_
  refine Body.seq ?_
  refine Body.region ?_
  refine Ops.u (Dtu.mv (lk rfl)) rfl ?_
  refine Ops.u (Dtu.eql (lk rfl) (lk rfl)) rfl ?_
  refine Ops.nil ?_
  refine Then.next ?_
  refine Body.condP (lk rfl) (fun c11 => ?_) (fun c11 => ?_)
  · refine Body.seq ?_
    refine Body.region ?_
    refine Ops.u (Dtu.asg (lk rfl)) rfl ?_
    refine Ops.u (Dtu.asg (lk rfl)) rfl ?_
    refine Ops.nil ?_
    refine Then.next ?_
    refine Body.ret ?_
    refine Then.ret ?_
    exact ⟨.inr rfl, _, pk [] rfl, .inl ⟨by omega, rfl, rfl⟩⟩
  · have hn := sizeS_le v
    have hz : sizeS v ≠ 0 := by omega
    generalize hsz : sizeS v = n at *
    refine Body.skip ?_
    refine Then.next ?_
    refine Body.seq ?_
    refine Body.region ?_
    refine Ops.u (Dtu.mv (lk rfl)) rfl ?_
    refine Ops.s (Stp.make (m := (n)) Try.underlying32 ty5 rfl (lk rfl) (lk rfl) (by omega) (by omega) (by omega) (fun v13 => ?_)) rfl
    refine Ops.u (Dtu.asg (lk rfl)) rfl ?_
    refine Ops.nil ?_
    refine Then.next ?_
    refine Body.seq ?_
    refine Body.region ?_
    refine Ops.u (Dtu.mv (lk rfl)) rfl ?_
    refine Ops.u (Dtu.asg (lk rfl)) rfl ?_
    refine Ops.nil ?_
    refine Then.next ?_
    refine Body.seq ?_
    refine Body.seq ?_
    refine Body.region ?_
    refine Ops.u (Dtu.mv (lk rfl)) rfl ?_
    refine Ops.u (Dtu.sub (lk rfl) (lk rfl) (w64 (by omega) (by omega))) rfl ?_
    refine Ops.u (Dtu.asg (lk rfl)) rfl ?_
    refine Ops.nil ?_
    refine Then.next ?_
    refine Body.block ?_
    refine Body.loopF (γ := Nat) rfl (fun k => [(7, .int .i64 ((n : Int) - 1 - k)), (6, .int .u64 (v / 256 ^ k))]) (fun k => [osl 5 1 v13 n ((laid v n k).map (.int .u8))]) (fun k => k ≤ n) (fun k => n - k) 0 (by omega)
      ⟨int_eq (by omega), int_eq (by simp), trivial⟩ (by rw [rep_map, laid_0]; rfl) ?_
    intro k u hk
    have hl : (laid v n k).length = n := by simp [laid]
    refine Body.seq ?_
    refine Body.seq ?_
    refine Body.region ?_
    refine Ops.u (Dtu.mv (lk rfl)) rfl ?_
    refine Ops.u (Dtu.geq (lk rfl) (lk rfl)) rfl ?_
    refine Ops.nil ?_
    refine Then.next ?_
    refine Body.condP (lk rfl) (fun c18 => ?_) (fun c18 => ?_)
    · refine Body.skip ?_
      refine Then.next ?_
      refine Body.seq ?_
      refine Body.block ?_
      refine Body.seq ?_
      refine Body.region ?_
      refine Ops.u (Dtu.mv (lk rfl)) rfl ?_
      refine Ops.u (Dtu.mv (lk rfl)) rfl ?_
      refine Ops.u (Dtu.mv (lk rfl)) rfl ?_
      refine Ops.u (Dtu.cvt Try.underlying75 Try.underlying5 (lk rfl) rfl) rfl ?_
      refine Ops.u (Dtu.ix (i := (n - 1 - k)) Try.underlying32 Try.sizeOf5 (Sl.osl 0 rfl) (lk rfl) (lk rfl) (by omega) (by omega)) rfl ?_
      refine Ops.e (Stp.storeM 0 Try.sizeOf5 rfl (lk rfl) (lk rfl) (fun _ => rfl) rfl (by omega) rfl ?_)
      refine Ops.nil ?_
      refine Then.next ?_
      refine Body.region ?_
      refine Ops.u (Dtu.mv (lk rfl)) rfl ?_
      refine Ops.u (Dtu.shr (lk rfl) (lk rfl) (by first | decide | omega) rfl) rfl ?_
      refine Ops.u (Dtu.asg (lk rfl)) rfl ?_
      refine Ops.nil ?_
      refine Blk.norm ?_
      refine Then.next ?_
      refine Body.region ?_
      refine Ops.u (Dtu.mv (lk rfl)) rfl ?_
      refine Ops.u (Dtu.sub (lk rfl) (lk rfl) (w64 (by omega) (by omega))) rfl ?_
      refine Ops.u (Dtu.asg (lk rfl)) rfl ?_
      refine Ops.nil ?_
      refine Round.goF (k + 1) rfl rfl rfl ⟨int_eq (by omega), int_eq ?_, trivial⟩ ?_ (by omega) (by omega)
      · rw [fdiv8, Int.pow_succ, Int.ediv_ediv_of_nonneg (Int.pow_nonneg (by omega))]
      · rw [wrap_u8, laid_step v n k (by omega)]
    · obtain rfl : k = n := by omega
      refine Body.exit ?_
      refine Then.exit ?_
      refine Round.exit ?_
      refine Blk.here ?_
      refine Then.next ?_
      refine Body.seq ?_
      refine Body.draw mixed ?_
      refine AB.u 0 rfl (by decide +kernel) (Dtu.mv (lk rfl)) rfl ?_
      refine AB.u 1 rfl (by decide +kernel) (Dtu.ix (i := 0) Try.underlying32 Try.sizeOf5 (Sl.osl 0 rfl) (lk rfl) (lk rfl) (by omega) (by omega)) rfl ?_
      refine AB.d 2 rfl (by decide +kernel) rfl (Det.ld Try.isAgg5 (lk rfl) (Rd.sl (Sl.osl 0 rfl) (gm (by omega)))) rfl ?_
      refine AB.u 3 rfl (by decide +kernel) (Dtu.mv (lk rfl)) rfl ?_
      refine AB.s 4 rfl (by decide +kernel) (by decide +kernel) (Stp.call rfl Try.call115 (lks rfl) (fun E' le hat => class_ok E' _) ?_) rfl
      rintro _ _ ⟨rfl, rfl⟩
      refine AB.u 5 rfl (by decide +kernel) (Dtu.cvt Try.underlying3 Try.underlying5 (lk rfl) rfl) rfl ?_
      refine AB.u 6 rfl (by decide +kernel) (Dtu.shl (lk rfl) (lk rfl) (by first | decide | omega) rfl) rfl ?_
      refine AB.u 7 rfl (by decide +kernel) (Dtu.bit rfl (lk rfl) (lk rfl) rfl) rfl ?_
      refine AB.u 8 rfl (by decide +kernel) (Dtu.ix (i := 0) Try.underlying32 Try.sizeOf5 (Sl.osl 0 rfl) (lk rfl) (lk rfl) (by omega) (by omega)) rfl ?_
      refine AB.e 9 rfl (by decide +kernel) (by decide +kernel) (Stp.storeM 0 Try.sizeOf5 rfl (lk rfl) (lk rfl) (fun _ => rfl) rfl (by omega) rfl ?_)
      refine AB.done (by decide +kernel) ?_
      refine Then.next ?_
      refine Body.seq ?_
      refine Body.region ?_
      refine Ops.u (Dtu.mv (lk rfl)) rfl ?_
      refine Ops.u (Dtu.asg (lk rfl)) rfl ?_
      refine Ops.u (Dtu.asg (lk rfl)) rfl ?_
      refine Ops.nil ?_
      refine Then.next ?_
      refine Body.ret ?_
      refine ⟨.inr rfl, _, pk [0] rfl, .inr ⟨hz, v13, rfl, ?_⟩⟩
      subst hsz
      rw [put_last v h0 hz]
end Go.Proofs.Ytijjjdljdjnbaaa
