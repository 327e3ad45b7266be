/- QNva: Vint, VintB, Slices, Cell, View, CellB, ViewB, Write, ReadC, Byts, Read, Alive20, Sizes, Close, OpenV, OpenW, Back, BackB, WR, BackW, OpenB, PatA, PatB, PatC, PatD. -/
import Derived.WalkKit
import Derived.ProofKit
import Derived.OpenShut
import Derived.Carry
import Derived.Deep.Slices
import Derived.Test.YtagcpamchgpgiaaRva
import Derived.Test.YtagcpamchgpgiaaRvb
section
/- Numbers in one, two, four or eight bytes: what the functions of package vint come to. -/
namespace Go.Proofs.Ytagcpamchgpgiaa
set_option maxRecDepth 100000
set_option linter.unusedVariables false
set_option linter.unusedSimpArgs false
open Go.Sx

theorem tops_ok (E : Env) : Does Try.prog 113 (#[] : Array Value) E [] fun r H' => r = .agg ([.int .u64 64, .int .u64 16384, .int .u64 1073741824, .int .u64 4611686018427387904] : List Value).toArray ∧ H' = [] := by
  refine Does.go (args := []) _ _ Try.func113 rfl Try.ntmps113 rfl rfl ?_
  refine Body.seq ?_
  refine Body.region ?_
  refine Ops.s (Stp.alloc ty181 (fun b0 => ?_)) rfl
  refine Ops.nil ?_
  refine Then.next ?_
  refine Body.seq ?_
  refine Body.region ?_
  refine Ops.u (Dtu.buildArr ty181 Try.underlying181 Try.sizeOf22 (lkp rfl) rfl rfl) rfl ?_
  refine Ops.e (Stp.store 0 Try.sizeOf181 (lk rfl) (lk rfl) rfl rfl rfl rfl rfl rfl rfl ?_)
  refine Ops.nil ?_
  refine Then.next ?_
  refine Body.ret ?_
  refine ⟨.inr rfl, _, Loads.agg Try.isAgg181 Try.sizeOf181 (Rds.ow (m := 4) 0 rfl rfl) rfl, _, pk [] rfl, rfl, rfl⟩

def topsL : List Value := [.int .u64 64, .int .u64 16384, .int .u64 1073741824, .int .u64 4611686018427387904]
def topsN (i : Nat) : Int := match i with | 0 => 64 | 1 => 16384 | 2 => 1073741824 | _ => 4611686018427387904
theorem tops_get (i : Nat) (h : i < 4) : topsL[0 + i * 1]? = some (.int .u64 (topsN i)) := by
  match i, h with
  | 0, _ => rfl
  | 1, _ => rfl
  | 2, _ => rfl
  | 3, _ => rfl
def classS (v : Int) : Nat := if v < 64 then 0 else if v < 16384 then 1 else if v < 1073741824 then 2 else if v < 4611686018427387904 then 3 else 4
theorem classS_of (v : Int) (i : Nat) (h : i < 4) (h1 : v < topsN i) (h2 : ∀ j, j < i → topsN j ≤ v) : classS v = i := by
  unfold classS
  match i, h with
  | 0, _ => simp only [topsN] at h1; simp [h1]
  | 1, _ => have := h2 0 (by omega); simp only [topsN] at *; repeat (first | rw [if_pos (by omega)] | rw [if_neg (by omega)])
  | 2, _ => have := h2 0 (by omega); have := h2 1 (by omega); simp only [topsN] at *; repeat (first | rw [if_pos (by omega)] | rw [if_neg (by omega)])
  | 3, _ => have := h2 0 (by omega); have := h2 1 (by omega); have := h2 2 (by omega); simp only [topsN] at *; repeat (first | rw [if_pos (by omega)] | rw [if_neg (by omega)])
theorem classS_4 (v : Int) (h2 : ∀ j, j < 4 → topsN j ≤ v) : classS v = 4 := by
  unfold classS
  have := h2 0 (by omega); have := h2 1 (by omega); have := h2 2 (by omega); have := h2 3 (by omega); simp only [topsN] at *; repeat (first | rw [if_pos (by omega)] | rw [if_neg (by omega)])
theorem classS_le (v : Int) : classS v ≤ 4 := by unfold classS; (repeat' split) <;> omega

theorem class_ok (E : Env) (v : Int) : Does Try.prog 98 #[.int .u64 v] E [] fun r H' => r = .int .i64 (classS v) ∧ H' = [] := by
  refine Does.go (args := [.int .u64 v]) _ _ Try.func98 rfl Try.ntmps98 rfl rfl ?_
  refine Body.seq ?_
  refine Body.region ?_
  refine Ops.u (Dtu.asg (lk rfl)) rfl ?_
  refine Ops.nil ?_
  refine Then.next ?_
  refine Body.scope ?_
  refine Body.seq ?_
  refine Body.region ?_
  refine Ops.s (Stp.call rfl Try.call113 (lks rfl) (fun E' le hat => tops_ok E') ?_) rfl
  rintro _ _ ⟨rfl, rfl⟩
  refine Ops.s (Stp.alloc ty181 (fun b3 => ?_)) rfl
  refine Ops.e (Stp.store 0 Try.sizeOf181 (lk rfl) (lk rfl) rfl rfl rfl rfl rfl rfl rfl ?_)
  refine Ops.nil ?_
  refine Then.next ?_
  refine Body.seq ?_
  refine Body.region ?_
  refine Ops.u (Dtu.asg (lk rfl)) rfl ?_
  refine Ops.nil ?_
  refine Then.next ?_
  refine Body.seq ?_
  refine Body.label ?_
  refine Then.next ?_
  refine Body.seq ?_
  refine Body.block ?_
  refine Body.loopF (γ := Nat) rfl (fun i => [(4, .int .i64 i)]) (fun _ => [own b3 topsL 181]) (fun i => i ≤ 4 ∧ ∀ j, j < i → topsN j ≤ v) (fun i => 4 - i) 0 ⟨by omega, fun _ h => by omega⟩ ⟨rfl, trivial⟩ rfl ?_
  rintro i u ⟨h0, h1⟩
  refine Body.seq ?_
  refine Body.seq ?_
  refine Body.region ?_
  refine Ops.u (Dtu.mv (lk rfl)) rfl ?_
  refine Ops.u (Dtu.lss (lk rfl) (lk rfl)) rfl ?_
  refine Ops.nil ?_
  refine Then.next ?_
  refine Body.condP (lk rfl) (fun c7 => ?_) (fun c7 => ?_)
  · refine Body.skip ?_
    refine Then.next ?_
    refine Body.block ?_
    refine Body.seq ?_
    refine Body.seq ?_
    refine Body.region ?_
    refine Ops.u (Dtu.mv (lk rfl)) rfl ?_
    refine Ops.u (Dtu.mv (lk rfl)) rfl ?_
    refine Ops.u (Dtu.ixa (i := (i)) Try.underlying181 Try.sizeOf22 (lk rfl) (lk rfl) (by omega) (by omega)) rfl ?_
    refine Ops.d (Det.ld Try.isAgg22 (lk rfl) (Rd.ow 0 rfl (tops_get i (by omega)))) rfl ?_
    refine Ops.u (Dtu.lss (lk rfl) (lk rfl)) rfl ?_
    refine Ops.nil ?_
    refine Then.next ?_
    refine Body.condP (lk rfl) (fun c12 => ?_) (fun c12 => ?_)
    · refine Body.exit ?_
      refine Then.exit ?_
      refine Blk.past rfl ?_
      refine Round.exit ?_
      refine Blk.here ?_
      refine Then.next ?_
      refine Body.seq ?_
      refine Body.region ?_
      refine Ops.u (Dtu.mv (lk rfl)) rfl ?_
      refine Ops.u (Dtu.asg (lk rfl)) rfl ?_
      refine Ops.nil ?_
      refine Then.next ?_
      refine Body.ret ?_
      refine ⟨.inr rfl, _, pk [] rfl, ?_, rfl⟩
      rw [classS_of v i (by omega) c12 h1]; rfl
    · refine Body.skip ?_
      refine Then.next ?_
      refine Body.region ?_
      refine Ops.u (Dtu.mv (lk rfl)) rfl ?_
      refine Ops.u (Dtu.add (lk rfl) (lk rfl) (w64 (by omega) (by omega))) rfl ?_
      refine Ops.u (Dtu.asg (lk rfl)) rfl ?_
      refine Ops.nil ?_
      refine Blk.norm ?_
      exact Round.goF (i + 1) rfl rfl rfl ⟨rfl, trivial⟩ rfl ⟨by omega, fun j hj => by
        by_cases e : j = i
        · subst e; omega
        · exact h1 j (by omega)⟩ (by omega)
  · refine Body.exit ?_
    refine Then.exit ?_
    refine Round.exit ?_
    refine Blk.here ?_
    refine Then.next ?_
    refine Body.seq ?_
    refine Body.region ?_
    refine Ops.u (Dtu.mv (lk rfl)) rfl ?_
    refine Ops.u (Dtu.asg (lk rfl)) rfl ?_
    refine Ops.nil ?_
    refine Then.next ?_
    refine Body.ret ?_
    refine ⟨.inr rfl, _, pk [] rfl, ?_, rfl⟩
    rw [classS_4 v (fun j hj => h1 j (by omega)), show i = 4 by omega]; rfl

/-- how many bytes a number has; 0: it has none -/
def sizeS (v : Int) : Nat := if classS v = 4 then 0 else 2 ^ classS v
theorem sizeS_le (v : Int) : sizeS v ≤ 8 := by
  unfold sizeS classS; (repeat' split) <;> simp_all
theorem size_ok (E : Env) (v : Int) : Does Try.prog 97 #[.int .u64 v] E [] fun r H' => r = .int .i64 (sizeS v) ∧ H' = [] := by
  refine Does.go (args := [.int .u64 v]) _ _ Try.func97 rfl Try.ntmps97 rfl rfl ?_
  refine Body.seq ?_
  refine Body.region ?_
  refine Ops.u (Dtu.asg (lk rfl)) rfl ?_
  refine Ops.nil ?_
  refine Then.next ?_
  refine Body.seq ?_
  refine Body.region ?_
  refine Ops.u (Dtu.mv (lk rfl)) rfl ?_
  refine Ops.s (Stp.call rfl Try.call98 (lks rfl) (fun E' le hat => class_ok E' _) ?_) rfl
  rintro _ _ ⟨rfl, rfl⟩
  refine Ops.u (Dtu.asg (lk rfl)) rfl ?_
  refine Ops.nil ?_
  refine Then.next ?_
  refine Body.seq ?_
  refine Body.seq ?_
  refine Body.region ?_
  refine Ops.u (Dtu.mv (lk rfl)) rfl ?_
  refine Ops.u (Dtu.eql (lk rfl) (lk rfl)) rfl ?_
  refine Ops.nil ?_
  refine Then.next ?_
  refine Body.condP (lk rfl) (fun c7 => ?_) (fun c7 => ?_)
  · refine Body.seq ?_
    refine Body.region ?_
    refine Ops.u (Dtu.asg (lk rfl)) rfl ?_
    refine Ops.nil ?_
    refine Then.next ?_
    refine Body.ret ?_
    refine Then.ret ?_
    refine ⟨.inr rfl, _, pk [] rfl, ?_, rfl⟩
    unfold sizeS; rw [if_pos (by omega)]; rfl
  · refine Body.skip ?_
    refine Then.next ?_
    refine Body.seq ?_
    refine Body.region ?_
    refine Ops.u (Dtu.mv (lk rfl)) rfl ?_
    refine Ops.u (Dtu.shl (lk rfl) (lk rfl) (by first | decide | omega) rfl) rfl ?_
    refine Ops.u (Dtu.asg (lk rfl)) rfl ?_
    refine Ops.nil ?_
    refine Then.next ?_
    refine Body.ret ?_
    refine ⟨.inr rfl, _, pk [] rfl, ?_, rfl⟩
    have h4 := classS_le v
    unfold sizeS; rw [if_neg (by omega)]
    have : classS v < 4 := by omega
    generalize classS v = c at *
    match c, this with
    | 0, _ => rfl
    | 1, _ => rfl
    | 2, _ => rfl
    | 3, _ => rfl

/-- the j-th of n bytes, the highest first -/
def byteAt (v : Int) (n j : Nat) : Int := v / 256 ^ (n - 1 - j) % 256
def putL (v : Int) : List Int := (List.range (sizeS v)).map fun j => byteAt v (sizeS v) j + if j = 0 then 64 * (classS v : Int) else 0
/-- k bytes have been laid, from the last on -/
def laid (v : Int) (n k : Nat) : List Int := (List.range n).map fun j => if n - k ≤ j then byteAt v n j else 0
theorem laid_0 (v : Int) (n : Nat) : List.replicate n (0 : Int) = laid v n 0 := by
  apply List.ext_getElem
  · simp [laid]
  · intro j h1 h2
    simp only [List.length_replicate] at h1
    simp [laid, show ¬ n ≤ j by omega]
theorem laid_step (v : Int) (n k : Nat) (hk : k < n) : (laid v n k).set (n - 1 - k) (v / 256 ^ k % 256) = laid v n (k + 1) := by
  apply List.ext_getElem
  · simp [laid]
  · intro j h1 h2
    simp only [laid, List.length_set, List.length_map, List.length_range] at h1
    rw [List.getElem_set]
    simp only [laid, List.getElem_map, List.getElem_range]
    by_cases h : n - 1 - k = j
    · rw [if_pos h, if_pos (by omega)]; unfold byteAt; rw [show n - 1 - j = k by omega]
    · rw [if_neg h]
      by_cases h3 : n - k ≤ j
      · rw [if_pos h3, if_pos (by omega)]
      · rw [if_neg h3, if_neg (by omega)]
theorem fdiv8 (n : Int) : n.fdiv (2 ^ (min (8 : Int).toNat IntKind.u64.bits)) = n / 256 := by
  have : (2 : Int) ^ (min (8 : Int).toNat IntKind.u64.bits) = 256 := by decide
  rw [this, Int.fdiv_eq_ediv_of_nonneg _ (by omega)]
theorem wrap_u8 (n : Int) : IntKind.u8.wrap n = n % 256 := by
  simp only [IntKind.wrap, IntKind.bits, IntKind.signed]; simp

theorem or_high : ∀ a : Fin 64, ∀ c : Fin 4, ibit .or .u8 (a.val : Int) (IntKind.u8.wrap (IntKind.u8.wrap (c.val : Int) * 2 ^ (min (6 : Int).toNat IntKind.u8.bits))) = (a.val : Int) + 64 * (c.val : Int) := by decide +kernel
theorem class_of_size {v : Int} (h : sizeS v ≠ 0) : classS v < 4 ∧ sizeS v = 2 ^ classS v := by
  have := classS_le v
  unfold sizeS at *
  split at h
  · omega
  · rename_i h4; rw [if_neg h4]; exact ⟨by omega, rfl⟩
theorem byte0_lt (v : Int) (h0 : 0 ≤ v) (hz : sizeS v ≠ 0) : 0 ≤ byteAt v (sizeS v) 0 ∧ byteAt v (sizeS v) 0 < 64 := by
  unfold byteAt sizeS classS at *
  split
  · simp; omega
  · split
    · simp; omega
    · split
      · simp; omega
      · split
        · simp; omega
        · rename_i h1 h2 h3 h4; simp [h1, h2, h3, h4] at hz
theorem put_last (v : Int) (h0 : 0 ≤ v) (hz : sizeS v ≠ 0) :
    (laid v (sizeS v) (sizeS v)).set 0 (ibit .or .u8 (laid v (sizeS v) (sizeS v))[0]! (IntKind.u8.wrap (IntKind.u8.wrap (classS v : Int) * 2 ^ (min (6 : Int).toNat IntKind.u8.bits)))) = putL v := by
  obtain ⟨hc, _⟩ := class_of_size hz
  obtain ⟨hb0, hb1⟩ := byte0_lt v h0 hz
  have e0 : (laid v (sizeS v) (sizeS v))[0]! = byteAt v (sizeS v) 0 := by
    rw [getElem!_pos _ 0 (by simp [laid]; omega)]; simp [laid]
  have h := or_high ⟨(byteAt v (sizeS v) 0).toNat, by omega⟩ ⟨classS v, hc⟩
  simp only [Int.toNat_of_nonneg hb0] at h
  rw [e0, h]
  apply List.ext_getElem
  · simp [laid, putL]
  · intro j h1 h2
    rw [List.getElem_set]
    simp only [laid, putL, List.getElem_map, List.getElem_range]
    by_cases hj : 0 = j
    · subst hj; simp
    · rw [if_neg hj, if_pos (by omega), if_neg (by omega)]; omega
theorem putL_len (v : Int) : (putL v).length = sizeS v := by simp [putL]

theorem put_ok (E : Env) (v : Int) (h0 : 0 ≤ v) : Does Try.prog 72 #[.int .u64 v] E [] fun r H' =>
    (sizeS v = 0 ∧ r = .tuple #[.slice none 0 0, .int .i64 11] ∧ H' = []) ∨ (sizeS v ≠ 0 ∧ ∃ s, r = .tuple #[s, .int .i64 0] ∧ H' = [osl 5 1 s (sizeS v) ((putL v).map (.int .u8))]) := by
  refine Does.go (args := [.int .u64 v]) _ _ Try.func72 rfl Try.ntmps72 rfl rfl ?_
  refine Body.seq ?_
  refine Body.region ?_
  refine Ops.u (Dtu.asg (lk rfl)) rfl ?_
  refine Ops.u (Dtu.asg (lk rfl)) rfl ?_
  refine Ops.nil ?_
  refine Then.next ?_
  refine Body.seq ?_
  refine Body.region ?_
  refine Ops.u (Dtu.mv (lk rfl)) rfl ?_
  refine Ops.s (Stp.call rfl Try.call97 (lks rfl) (fun E' le hat => size_ok E' _) ?_) rfl
  rintro _ _ ⟨rfl, rfl⟩
  refine Ops.u (Dtu.asg (lk rfl)) rfl ?_
  refine Ops.nil ?_
  refine Then.next ?_
  refine Body.seq ?_
  refine Body.seq ?_
  refine Body.region ?_
  refine Ops.u (Dtu.mv (lk rfl)) rfl ?_
  refine Ops.u (Dtu.eql (lk rfl) (lk rfl)) rfl ?_
  refine Ops.nil ?_
  refine Then.next ?_
  refine Body.condP (lk rfl) (fun c11 => ?_) (fun c11 => ?_)
  · refine Body.seq ?_
    refine Body.region ?_
    refine Ops.u (Dtu.asg (lk rfl)) rfl ?_
    refine Ops.u (Dtu.asg (lk rfl)) rfl ?_
    refine Ops.nil ?_
    refine Then.next ?_
    refine Body.ret ?_
    refine Then.ret ?_
    exact ⟨.inr rfl, _, pk [] rfl, .inl ⟨by omega, rfl, rfl⟩⟩
  · have hn := sizeS_le v
    have hz : sizeS v ≠ 0 := by omega
    generalize hsz : sizeS v = n at *
    refine Body.skip ?_
    refine Then.next ?_
    refine Body.seq ?_
    refine Body.region ?_
    refine Ops.u (Dtu.mv (lk rfl)) rfl ?_
    refine Ops.s (Stp.make (m := (n)) Try.underlying23 ty5 rfl (lk rfl) (lk rfl) (by omega) (by omega) (by omega) (fun v13 => ?_)) rfl
    refine Ops.u (Dtu.asg (lk rfl)) rfl ?_
    refine Ops.nil ?_
    refine Then.next ?_
    refine Body.seq ?_
    refine Body.region ?_
    refine Ops.u (Dtu.mv (lk rfl)) rfl ?_
    refine Ops.u (Dtu.asg (lk rfl)) rfl ?_
    refine Ops.nil ?_
    refine Then.next ?_
    refine Body.seq ?_
    refine Body.seq ?_
    refine Body.region ?_
    refine Ops.u (Dtu.mv (lk rfl)) rfl ?_
    refine Ops.u (Dtu.sub (lk rfl) (lk rfl) (w64 (by omega) (by omega))) rfl ?_
    refine Ops.u (Dtu.asg (lk rfl)) rfl ?_
    refine Ops.nil ?_
    refine Then.next ?_
    refine Body.block ?_
    refine Body.loopF (γ := Nat) rfl (fun k => [(7, .int .i64 ((n : Int) - 1 - k)), (6, .int .u64 (v / 256 ^ k))]) (fun k => [osl 5 1 v13 n ((laid v n k).map (.int .u8))]) (fun k => k ≤ n) (fun k => n - k) 0 (by omega)
      ⟨int_eq (by omega), int_eq (by simp), trivial⟩ (by rw [rep_map, laid_0]; rfl) ?_
    intro k u hk
    have hl : (laid v n k).length = n := by simp [laid]
    refine Body.seq ?_
    refine Body.seq ?_
    refine Body.region ?_
    refine Ops.u (Dtu.mv (lk rfl)) rfl ?_
    refine Ops.u (Dtu.geq (lk rfl) (lk rfl)) rfl ?_
    refine Ops.nil ?_
    refine Then.next ?_
    refine Body.condP (lk rfl) (fun c18 => ?_) (fun c18 => ?_)
    · refine Body.skip ?_
      refine Then.next ?_
      refine Body.seq ?_
      refine Body.block ?_
      refine Body.seq ?_
      refine Body.region ?_
      refine Ops.u (Dtu.mv (lk rfl)) rfl ?_
      refine Ops.u (Dtu.mv (lk rfl)) rfl ?_
      refine Ops.u (Dtu.mv (lk rfl)) rfl ?_
      refine Ops.u (Dtu.cvt Try.underlying22 Try.underlying5 (lk rfl) rfl) rfl ?_
      refine Ops.u (Dtu.ix (i := (n - 1 - k)) Try.underlying23 Try.sizeOf5 (Sl.osl 0 rfl) (lk rfl) (lk rfl) (by omega) (by omega)) rfl ?_
      refine Ops.e (Stp.storeM 0 Try.sizeOf5 rfl (lk rfl) (lk rfl) (fun _ => rfl) rfl (by omega) rfl ?_)
      refine Ops.nil ?_
      refine Then.next ?_
      refine Body.region ?_
      refine Ops.u (Dtu.mv (lk rfl)) rfl ?_
      refine Ops.u (Dtu.shr (lk rfl) (lk rfl) (by first | decide | omega) rfl) rfl ?_
      refine Ops.u (Dtu.asg (lk rfl)) rfl ?_
      refine Ops.nil ?_
      refine Blk.norm ?_
      refine Then.next ?_
      refine Body.region ?_
      refine Ops.u (Dtu.mv (lk rfl)) rfl ?_
      refine Ops.u (Dtu.sub (lk rfl) (lk rfl) (w64 (by omega) (by omega))) rfl ?_
      refine Ops.u (Dtu.asg (lk rfl)) rfl ?_
      refine Ops.nil ?_
      refine Round.goF (k + 1) rfl rfl rfl ⟨int_eq (by omega), int_eq ?_, trivial⟩ ?_ (by omega) (by omega)
      · rw [fdiv8, Int.pow_succ, Int.ediv_ediv_of_nonneg (Int.pow_nonneg (by omega))]
      · rw [wrap_u8, laid_step v n k (by omega)]
    · obtain rfl : k = n := by omega
      refine Body.exit ?_
      refine Then.exit ?_
      refine Round.exit ?_
      refine Blk.here ?_
      refine Then.next ?_
      refine Body.seq ?_
      refine Body.draw mixed ?_
      refine AB.u 0 rfl (by decide +kernel) (Dtu.mv (lk rfl)) rfl ?_
      refine AB.u 1 rfl (by decide +kernel) (Dtu.ix (i := 0) Try.underlying23 Try.sizeOf5 (Sl.osl 0 rfl) (lk rfl) (lk rfl) (by omega) (by omega)) rfl ?_
      refine AB.d 2 rfl (by decide +kernel) rfl (Det.ld Try.isAgg5 (lk rfl) (Rd.sl (Sl.osl 0 rfl) (gm (by omega)))) rfl ?_
      refine AB.u 3 rfl (by decide +kernel) (Dtu.mv (lk rfl)) rfl ?_
      refine AB.s 4 rfl (by decide +kernel) (by decide +kernel) (Stp.call rfl Try.call98 (lks rfl) (fun E' le hat => class_ok E' _) ?_) rfl
      rintro _ _ ⟨rfl, rfl⟩
      refine AB.u 5 rfl (by decide +kernel) (Dtu.cvt Try.underlying3 Try.underlying5 (lk rfl) rfl) rfl ?_
      refine AB.u 6 rfl (by decide +kernel) (Dtu.shl (lk rfl) (lk rfl) (by first | decide | omega) rfl) rfl ?_
      refine AB.u 7 rfl (by decide +kernel) (Dtu.bit rfl (lk rfl) (lk rfl) rfl) rfl ?_
      refine AB.u 8 rfl (by decide +kernel) (Dtu.ix (i := 0) Try.underlying23 Try.sizeOf5 (Sl.osl 0 rfl) (lk rfl) (lk rfl) (by omega) (by omega)) rfl ?_
      refine AB.e 9 rfl (by decide +kernel) (by decide +kernel) (Stp.storeM 0 Try.sizeOf5 rfl (lk rfl) (lk rfl) (fun _ => rfl) rfl (by omega) rfl ?_)
      refine AB.done (by decide +kernel) ?_
      refine Then.next ?_
      refine Body.seq ?_
      refine Body.region ?_
      refine Ops.u (Dtu.mv (lk rfl)) rfl ?_
      refine Ops.u (Dtu.asg (lk rfl)) rfl ?_
      refine Ops.u (Dtu.asg (lk rfl)) rfl ?_
      refine Ops.nil ?_
      refine Then.next ?_
      refine Body.ret ?_
      refine ⟨.inr rfl, _, pk [0] rfl, .inr ⟨hz, v13, rfl, ?_⟩⟩
      subst hsz
      rw [put_last v h0 hz]
end Go.Proofs.Ytagcpamchgpgiaa
end
section
/- What a number's bytes are read as. -/
namespace Go.Proofs.Ytagcpamchgpgiaa
set_option maxRecDepth 100000
set_option linter.unusedVariables false
set_option linter.unusedSimpArgs false
open Go.Sx

theorem ibit_or {k : IntKind} {x y : Int} (hx : 0 ≤ x) (hy : 0 ≤ y) (hx2 : x.toNat < 2 ^ k.bits) (hy2 : y.toNat < 2 ^ k.bits) : ibit .or k x y = k.wrap ((x.toNat ||| y.toNat : Nat) : Int) := by
  have e1 : BitVec.ofInt k.bits x = BitVec.ofNat k.bits x.toNat := by
    rw [← BitVec.ofInt_natCast, Int.toNat_of_nonneg hx]
  have e2 : BitVec.ofInt k.bits y = BitVec.ofNat k.bits y.toNat := by
    rw [← BitVec.ofInt_natCast, Int.toNat_of_nonneg hy]
  simp only [ibit, e1, e2, BitVec.toNat_or, BitVec.toNat_ofNat, Nat.mod_eq_of_lt hx2, Nat.mod_eq_of_lt hy2]
theorem or_byte {v c : Int} (hv : 0 ≤ v) (hv2 : v < 72057594037927936) (hc : 0 ≤ c) (hc2 : c < 256) : ibit .or .u64 (v * 256) c = v * 256 + c := by
  obtain ⟨n, rfl⟩ := Int.eq_ofNat_of_zero_le hv
  obtain ⟨d, rfl⟩ := Int.eq_ofNat_of_zero_le hc
  have h1 : ((n : Int) * 256).toNat = n <<< 8 := by rw [Nat.shiftLeft_eq]; omega
  have hn : n < 72057594037927936 := by omega
  rw [ibit_or (by omega) (by omega) (by simp [IntKind.bits]; omega) (by simp [IntKind.bits]; omega), h1, Int.toNat_natCast, ← Nat.shiftLeft_add_eq_or_of_lt (by omega : d < 2 ^ 8), Nat.shiftLeft_eq]
  rw [wu64 (by omega) (by omega)]
  omega
theorem and_63 : ∀ c : Fin 256, ibit .and .u8 (c.val : Int) 63 = (c.val : Int) % 64 := by decide +kernel
theorem shr_6 : ∀ c : Fin 256, (c.val : Int).fdiv (2 ^ (min (6 : Int).toNat IntKind.u8.bits)) = (((c.val / 64 : Nat)) : Int) := by decide +kernel
theorem one_shl : ∀ c : Fin 4, IntKind.i64.wrap (1 * 2 ^ (min ((c.val : Int)).toNat IntKind.i64.bits)) = ((2 ^ c.val : Nat) : Int) := by decide +kernel

theorem shl_8 {v : Int} (h0 : 0 ≤ v) (h1 : v < 72057594037927936) : IntKind.u64.wrap (v * 2 ^ (min (8 : Int).toNat IntKind.u64.bits)) = v * 256 := by
  have : (2 : Int) ^ (min (8 : Int).toNat IntKind.u64.bits) = 256 := by decide
  rw [this, wu64 (by omega) (by omega)]
/-- bytes -/
def Byt (bs : List Int) : Prop := ∀ i, i < bs.length → 0 ≤ bs[i]! ∧ bs[i]! < 256
def foldB (v : Int) (l : List Int) : Int := l.foldl (fun v c => v * 256 + c) v
theorem foldB_snoc (v : Int) (l : List Int) (c : Int) : foldB v (l ++ [c]) = foldB v l * 256 + c := by simp [foldB]
theorem take_snoc {l : List Int} {i : Nat} (h : i < l.length) : l.take (i + 1) = l.take i ++ [l[i]!] := by
  rw [List.take_succ_eq_append_getElem h, getElem!_pos l i h]
theorem pow256 {i : Nat} (h : i ≤ 6) : (64 : Int) * 256 ^ i ≤ 18014398509481984 := by
  have : i = 0 ∨ i = 1 ∨ i = 2 ∨ i = 3 ∨ i = 4 ∨ i = 5 ∨ i = 6 := by omega
  rcases this with rfl | rfl | rfl | rfl | rfl | rfl | rfl <;> decide
/-- how many bytes a beginning tells -/
def manyS (c : Int) : Nat := 2 ^ (c / 64).toNat
/-- a number, the place behind it, an error -/
def getS (bs : List Int) (p : Int) : Int × Int × Int :=
  if p < 0 ∨ (bs.length : Int) < p then (0, 0, 1)
  else if p = bs.length then (0, 0, 10)
  else if bs.length - p.toNat < manyS bs[p.toNat]! then (0, 0, 10)
  else
    let v := foldB (bs[p.toNat]! % 64) ((bs.drop (p.toNat + 1)).take (manyS bs[p.toNat]! - 1))
    if sizeS v ≠ manyS bs[p.toNat]! then (0, 0, 3) else (v, p + manyS bs[p.toNat]!, 0)

theorem get_ok (E : Env) (b : Value) (bs : List Int) (p : Int) (h : Sl E [] 1 b bs.length (bs.map (.int .u8))) (hb : Byt bs) : Does Try.prog 77 #[b, .int .i64 p] E [] fun r H' =>
    r = .tuple #[.int .u64 (getS bs p).1, .int .i64 (getS bs p).2.1, .int .i64 (getS bs p).2.2] ∧ H' = [] := by
  refine Does.pure h.len fun hlen => ?_
  refine Does.go (args := [b, .int .i64 p]) _ _ Try.func77 rfl Try.ntmps77 rfl rfl ?_
  refine Body.seq ?_
  refine Body.region ?_
  refine Ops.u (Dtu.asg (lk rfl)) rfl ?_
  refine Ops.u (Dtu.asg (lk rfl)) rfl ?_
  refine Ops.u (Dtu.asg (lk rfl)) rfl ?_
  refine Ops.nil ?_
  refine Then.next ?_
  refine Body.seq ?_
  refine Body.block ?_
  refine Body.seq ?_
  refine Body.region ?_
  refine Ops.u (Dtu.mv (lk rfl)) rfl ?_
  refine Ops.u (Dtu.lss (lk rfl) (lk rfl)) rfl ?_
  refine Ops.u (Dtu.mv (lk rfl)) rfl ?_
  refine Ops.decP 14 rfl (fun c14 => ?_) (fun c14 => ?_)
  · refine Ops.gn rfl rfl rfl rfl rfl ?_
    refine Ops.gn rfl rfl rfl rfl rfl ?_
    refine Ops.gn rfl rfl rfl rfl rfl ?_
    refine Ops.gn rfl rfl rfl rfl rfl ?_
    refine Ops.u (Dtu.pickT (lk rfl) (lk rfl)) rfl ?_
    refine Ops.u (Dtu.asg (lk rfl)) rfl ?_
    refine Ops.nil ?_
    refine Then.next ?_
    refine Body.condT (lk rfl) ?_
    refine Body.seq ?_
    refine Body.region ?_
    refine Ops.u (Dtu.asg (lk rfl)) rfl ?_
    refine Ops.u (Dtu.asg (lk rfl)) rfl ?_
    refine Ops.u (Dtu.asg (lk rfl)) rfl ?_
    refine Ops.nil ?_
    refine Then.next ?_
    refine Body.ret ?_
    refine Blk.ret ?_
    refine Then.ret ?_
    refine ⟨.inr rfl, _, pk [] rfl, ?_, rfl⟩
    unfold getS; rw [if_pos (.inl c14)]; rfl
  · refine Ops.gu rfl rfl rfl (Dtu.mv (lk rfl)) rfl ?_
    refine Ops.gu rfl rfl rfl (Dtu.mv (lk rfl)) rfl ?_
    refine Ops.gu rfl rfl rfl (Dtu.lenS Try.underlying23 (Sl.up h) (lk rfl)) rfl ?_
    refine Ops.gu rfl rfl rfl (Dtu.gtr (lk rfl) (lk rfl)) rfl ?_
    refine Ops.u (Dtu.pickF (lk rfl) (lk rfl)) rfl ?_
    refine Ops.u (Dtu.asg (lk rfl)) rfl ?_
    refine Ops.nil ?_
    refine Then.next ?_
    refine Body.condP (lk rfl) (fun c11 => ?_) (fun c11 => ?_)
    · refine Body.seq ?_
      refine Body.region ?_
      refine Ops.u (Dtu.asg (lk rfl)) rfl ?_
      refine Ops.u (Dtu.asg (lk rfl)) rfl ?_
      refine Ops.u (Dtu.asg (lk rfl)) rfl ?_
      refine Ops.nil ?_
      refine Then.next ?_
      refine Body.ret ?_
      refine Blk.ret ?_
      refine Then.ret ?_
      refine ⟨.inr rfl, _, pk [] rfl, ?_, rfl⟩
      unfold getS; rw [if_pos (.inr c11)]; rfl
    · refine Body.seq ?_
      refine Body.region ?_
      refine Ops.u (Dtu.mv (lk rfl)) rfl ?_
      refine Ops.u (Dtu.mv (lk rfl)) rfl ?_
      refine Ops.u (Dtu.lenS Try.underlying23 (Sl.up h) (lk rfl)) rfl ?_
      refine Ops.u (Dtu.eql (lk rfl) (lk rfl)) rfl ?_
      refine Ops.u (Dtu.asg (lk rfl)) rfl ?_
      refine Ops.nil ?_
      refine Then.next ?_
      refine Body.condP (lk rfl) (fun c20 => ?_) (fun c20 => ?_)
      · refine Body.seq ?_
        refine Body.region ?_
        refine Ops.u (Dtu.asg (lk rfl)) rfl ?_
        refine Ops.u (Dtu.asg (lk rfl)) rfl ?_
        refine Ops.u (Dtu.asg (lk rfl)) rfl ?_
        refine Ops.nil ?_
        refine Then.next ?_
        refine Body.ret ?_
        refine Blk.ret ?_
        refine Then.ret ?_
        refine ⟨.inr rfl, _, pk [] rfl, ?_, rfl⟩
        unfold getS; rw [if_neg (by omega), if_pos (by omega)]; rfl
      · obtain ⟨q, rfl⟩ := Int.eq_ofNat_of_zero_le (show 0 ≤ p by omega)
        have hq : q < bs.length := by omega
        obtain ⟨g0, g1⟩ := hb q hq
        obtain ⟨c, hc⟩ : ∃ c : Nat, bs[q]! = (c : Int) := ⟨_, (Int.toNat_of_nonneg g0).symm⟩
        have hc2 : c < 256 := by omega
        have hc4 : c / 64 < 4 := by omega
        have e1 : bs[q]!.fdiv (2 ^ (min (6 : Int).toNat IntKind.u8.bits)) = ((c / 64 : Nat) : Int) := by rw [hc]; exact shr_6 ⟨c, hc2⟩
        have e2 : IntKind.i64.wrap (1 * 2 ^ (min (((c / 64 : Nat) : Int)).toNat IntKind.i64.bits)) = ((2 ^ (c / 64) : Nat) : Int) := one_shl ⟨c / 64, hc4⟩
        have e3 : ibit .and .u8 bs[q]! 63 = (c : Int) % 64 := by rw [hc]; exact and_63 ⟨c, hc2⟩
        have em : manyS bs[q]! = 2 ^ (c / 64) := by unfold manyS; rw [hc]; congr 1
        have hm1 : 2 ^ (c / 64) ≤ 8 ∧ 1 ≤ 2 ^ (c / 64) := ⟨Nat.pow_le_pow_right (n := 2) (j := 3) (by omega) (by omega), Nat.one_le_two_pow⟩
        generalize hN : 2 ^ (c / 64) = N at *
        refine Body.skip ?_
        refine Blk.norm ?_
        refine Then.next ?_
        refine Body.seq ?_
        refine Body.region ?_
        refine Ops.u (Dtu.mv (lk rfl)) rfl ?_
        refine Ops.u (Dtu.mv (lk rfl)) rfl ?_
        refine Ops.u (Dtu.ix (i := (q)) Try.underlying23 Try.sizeOf5 (Sl.up h) (lk rfl) (lk rfl) (by omega) (by omega)) rfl ?_
        refine Ops.d (Det.ld Try.isAgg5 (lk rfl) (Rd.sl (Sl.up h) (gm (by omega)))) rfl ?_
        refine Ops.u (Dtu.shr (lk rfl) (lk rfl) (by first | decide | omega) (by with_reducible assumption)) rfl ?_
        refine Ops.u (Dtu.shl (lk rfl) (lk rfl) (by first | decide | omega) (by with_reducible assumption)) rfl ?_
        refine Ops.u (Dtu.asg (lk rfl)) rfl ?_
        refine Ops.nil ?_
        refine Then.next ?_
        refine Body.seq ?_
        refine Body.seq ?_
        refine Body.region ?_
        refine Ops.u (Dtu.mv (lk rfl)) rfl ?_
        refine Ops.u (Dtu.lenS Try.underlying23 (Sl.up h) (lk rfl)) rfl ?_
        refine Ops.u (Dtu.mv (lk rfl)) rfl ?_
        refine Ops.u (Dtu.sub (lk rfl) (lk rfl) (w64 (by omega) (by omega))) rfl ?_
        refine Ops.u (Dtu.mv (lk rfl)) rfl ?_
        refine Ops.u (Dtu.lss (lk rfl) (lk rfl)) rfl ?_
        refine Ops.nil ?_
        refine Then.next ?_
        refine Body.condP (lk rfl) (fun c36 => ?_) (fun c36 => ?_)
        · refine Body.seq ?_
          refine Body.region ?_
          refine Ops.u (Dtu.asg (lk rfl)) rfl ?_
          refine Ops.u (Dtu.asg (lk rfl)) rfl ?_
          refine Ops.u (Dtu.asg (lk rfl)) rfl ?_
          refine Ops.nil ?_
          refine Then.next ?_
          refine Body.ret ?_
          refine Then.ret ?_
          refine ⟨.inr rfl, _, pk [] rfl, ?_, rfl⟩
          unfold getS; rw [if_neg (by omega), if_neg (by omega), if_pos (by simp only [Int.toNat_natCast]; omega)]; rfl
        · have hs := h.subM (q + 1) (q + N) (by omega) (by omega)
          rw [show q + N - (q + 1) = N - 1 by omega] at hs
          have hyl : ((bs.drop (q + 1)).take (N - 1)).length = N - 1 := by simp; omega
          have hyb : ∀ i, i < N - 1 → 0 ≤ ((bs.drop (q + 1)).take (N - 1))[i]! ∧ ((bs.drop (q + 1)).take (N - 1))[i]! < 256 := fun i hi => by
            have := hb (q + 1 + i) (by omega)
            rw [getElem!_pos _ _ (by omega)] at this ⊢
            simpa [List.getElem_take, List.getElem_drop] using this
          have hget : getS bs (q : Int) = (let v := foldB ((c : Int) % 64) ((bs.drop (q + 1)).take (N - 1)); if sizeS v ≠ N then (0, 0, 3) else (v, (q : Int) + N, 0)) := by
            unfold getS
            rw [if_neg (by omega), if_neg (by omega), if_neg (by simp only [Int.toNat_natCast]; omega)]
            have em' := em
            rw [hc] at em'
            simp only [Int.toNat_natCast, hc, em']
          generalize hys : (bs.drop (q + 1)).take (N - 1) = ys at *
          refine Body.skip ?_
          refine Then.next ?_
          refine Body.seq ?_
          refine Body.region ?_
          refine Ops.u (Dtu.mv (lk rfl)) rfl ?_
          refine Ops.u (Dtu.mv (lk rfl)) rfl ?_
          refine Ops.u (Dtu.ix (i := (q)) Try.underlying23 Try.sizeOf5 (Sl.up h) (lk rfl) (lk rfl) (by omega) (by omega)) rfl ?_
          refine Ops.d (Det.ld Try.isAgg5 (lk rfl) (Rd.sl (Sl.up h) (gm (by omega)))) rfl ?_
          refine Ops.u (Dtu.bit rfl (lk rfl) (lk rfl) (by with_reducible assumption)) rfl ?_
          refine Ops.u (Dtu.cvt Try.underlying5 Try.underlying22 (lk rfl) (wu64 (by omega) (by omega))) rfl ?_
          refine Ops.u (Dtu.asg (lk rfl)) rfl ?_
          refine Ops.nil ?_
          refine Then.next ?_
          refine Body.seq ?_
          refine Body.seq ?_
          refine Body.region ?_
          refine Ops.u (Dtu.mv (lk rfl)) rfl ?_
          refine Ops.u (Dtu.mv (lk rfl)) rfl ?_
          refine Ops.u (Dtu.add (lk rfl) (lk rfl) (w64 (by omega) (by omega))) rfl ?_
          refine Ops.u (Dtu.mv (lk rfl)) rfl ?_
          refine Ops.u (Dtu.mv (lk rfl)) rfl ?_
          refine Ops.u (Dtu.add (lk rfl) (lk rfl) (w64 (by omega) (by omega))) rfl ?_
          refine Ops.u (Dtu.slLH (q + 1) (q + N) Try.underlying23 Try.sizeOf5 (Sl.up h) (lk rfl) (lk rfl) (lk rfl) (by omega) (by omega) (by omega) (by omega)) rfl ?_
          refine Ops.u (Dtu.lenS Try.underlying23 (Sl.up hs) (lk rfl)) rfl ?_
          refine Ops.u (Dtu.mv (lk rfl)) rfl ?_
          refine Ops.nil ?_
          refine Then.next ?_
          refine Body.block ?_
          refine Body.loopF (γ := Nat) rfl (fun i => [(51, .int .i64 i), (8, .int .u64 (foldB ((c : Int) % 64) (ys.take i)))]) (fun _ => []) (fun i => i ≤ N - 1 ∧ 0 ≤ foldB ((c : Int) % 64) (ys.take i) ∧ foldB ((c : Int) % 64) (ys.take i) < 64 * 256 ^ i) (fun i => N - 1 - i) 0
            ⟨by omega, by simp [foldB]; omega, by simp [foldB]; omega⟩ ⟨rfl, rfl, trivial⟩ rfl ?_
          rintro i u ⟨hi, hf0, hf1⟩
          refine Body.seq ?_
          refine Body.region ?_
          refine Ops.u (Dtu.lss (lk rfl) (lk rfl)) rfl ?_
          refine Ops.nil ?_
          refine Then.next ?_
          refine Body.seq ?_
          refine Body.condP (lk rfl) (fun c52 => ?_) (fun c52 => ?_)
          · have hi6 := pow256 (i := i) (by omega)
            obtain ⟨y0, y1⟩ := hyb i (by omega)
            have e4 := shl_8 hf0 (by omega)
            have e5 := or_byte hf0 (by omega) y0 y1
            refine Body.skip ?_
            refine Then.next ?_
            refine Body.seq ?_
            refine Body.block ?_
            refine Body.seq ?_
            refine Body.region ?_
            refine Ops.u (Dtu.ix (i := (i)) Try.underlying23 Try.sizeOf5 (Sl.up hs) (lk rfl) (lk rfl) (by omega) (by omega)) rfl ?_
            refine Ops.d (Det.ld Try.isAgg5 (lk rfl) (Rd.sl (Sl.up hs) (gm (by omega)))) rfl ?_
            refine Ops.u (Dtu.asg (lk rfl)) rfl ?_
            refine Ops.nil ?_
            refine Then.next ?_
            refine Body.region ?_
            refine Ops.u (Dtu.mv (lk rfl)) rfl ?_
            refine Ops.u (Dtu.shl (lk rfl) (lk rfl) (by first | decide | omega) (by with_reducible assumption)) rfl ?_
            refine Ops.u (Dtu.mv (lk rfl)) rfl ?_
            refine Ops.u (Dtu.cvt Try.underlying5 Try.underlying22 (lk rfl) (wu64 (by omega) (by omega))) rfl ?_
            refine Ops.u (Dtu.bit rfl (lk rfl) (lk rfl) (by with_reducible assumption)) rfl ?_
            refine Ops.u (Dtu.asg (lk rfl)) rfl ?_
            refine Ops.nil ?_
            refine Blk.norm ?_
            refine Then.next ?_
            refine Body.region ?_
            refine Ops.u (Dtu.add (lk rfl) (lk rfl) (w64 (by omega) (by omega))) rfl ?_
            refine Ops.u (Dtu.mv (lk rfl)) rfl ?_
            refine Ops.nil ?_
            have hsn : foldB ((c : Int) % 64) (ys.take (i + 1)) = foldB ((c : Int) % 64) (ys.take i) * 256 + ys[i]! := by rw [take_snoc (by omega), foldB_snoc]
            refine Round.goF (i + 1) rfl rfl rfl ⟨rfl, ?_, trivial⟩ rfl ⟨by omega, by omega, ?_⟩ (by omega)
            · rw [hsn]; rfl
            · rw [hsn, Int.pow_succ]; omega
          · obtain rfl : i = N - 1 := by omega
            have ht : ys.take (N - 1) = ys := List.take_of_length_le (by omega)
            rw [ht] at hf0 hf1
            simp only [ht]
            refine Body.exit ?_
            refine Then.exit ?_
            refine Round.exit ?_
            refine Blk.here ?_
            refine Then.next ?_
            refine Body.seq ?_
            refine Body.seq ?_
            refine Body.region ?_
            refine Ops.u (Dtu.mv (lk rfl)) rfl ?_
            refine Ops.s (Stp.call rfl Try.call97 (lks rfl) (fun E' le hat => size_ok E' _) ?_) rfl
            rintro _ _ ⟨rfl, rfl⟩
            refine Ops.u (Dtu.mv (lk rfl)) rfl ?_
            refine Ops.u (Dtu.neq (lk rfl) (lk rfl)) rfl ?_
            refine Ops.nil ?_
            refine Then.next ?_
            refine Body.condP (lk rfl) (fun c64 => ?_) (fun c64 => ?_)
            · refine Body.seq ?_
              refine Body.region ?_
              refine Ops.u (Dtu.asg (lk rfl)) rfl ?_
              refine Ops.u (Dtu.asg (lk rfl)) rfl ?_
              refine Ops.u (Dtu.asg (lk rfl)) rfl ?_
              refine Ops.nil ?_
              refine Then.next ?_
              refine Body.ret ?_
              refine Then.ret ?_
              refine ⟨.inr rfl, _, pk [] rfl, ?_, rfl⟩
              rw [hget]; dsimp only; rw [if_pos (by omega)]; rfl
            · refine Body.skip ?_
              refine Then.next ?_
              refine Body.seq ?_
              refine Body.region ?_
              refine Ops.u (Dtu.mv (lk rfl)) rfl ?_
              refine Ops.u (Dtu.mv (lk rfl)) rfl ?_
              refine Ops.u (Dtu.mv (lk rfl)) rfl ?_
              refine Ops.u (Dtu.add (lk rfl) (lk rfl) (w64 (by omega) (by omega))) rfl ?_
              refine Ops.u (Dtu.asg (lk rfl)) rfl ?_
              refine Ops.u (Dtu.asg (lk rfl)) rfl ?_
              refine Ops.u (Dtu.asg (lk rfl)) rfl ?_
              refine Ops.nil ?_
              refine Then.next ?_
              refine Body.ret ?_
              refine ⟨.inr rfl, _, pk [] rfl, ?_, rfl⟩
              rw [hget]; dsimp only; rw [if_neg (by omega)]; rfl
end Go.Proofs.Ytagcpamchgpgiaa
end
section
/- The library's functions on slices, at this seat's types. -/
namespace Go.Proofs.Ytagcpamchgpgiaa
set_option maxRecDepth 100000
set_option linter.unusedVariables false
set_option linter.unusedSimpArgs false
open Go.Sx

/-- slices.Clone at one type -/
theorem cloneC_ok (E : Env) (v : Value) (m : Nat) (vs : List Value) (h : Sl E [] 4 v m vs) (h1 : vs.all (·.oneCell') = true) (hb : m * 16 ≤ 140737488355328) : Does Try.prog 68 #[v] E [] fun r H' => H' = [osl 127 4 r m vs] ∧ IsSl r := by
  refine Does.go (args := [v]) _ _ Try.func68 rfl Try.ntmps68 rfl rfl ?_
  refine Body.seq ?_
  refine Body.region ?_
  refine Ops.u (Dtu.asg (lk rfl)) rfl ?_
  refine Ops.nil ?_
  refine Then.next ?_
  refine Body.seq ?_
  refine Body.seq ?_
  refine Body.region ?_
  refine Ops.u (Dtu.mv (lk rfl)) rfl ?_
  refine Ops.u (Dtu.nilS Try.underlying58 (Sl.up h) (lk rfl)) rfl ?_
  refine Ops.nil ?_
  refine Then.next ?_
  refine Body.cond (lk rfl) (fun c4 => ?_) (fun c4 => ?_)
  · refine Body.pure (h.nil0 c4) ?_
    rintro ⟨rfl, rfl⟩
    refine Body.seq ?_
    refine Body.region ?_
    refine Ops.u (Dtu.asg (lk rfl)) rfl ?_
    refine Ops.nil ?_
    refine Then.next ?_
    refine Body.ret ?_
    refine Then.ret ?_
    exact ⟨.inr rfl, _, fun w s => osl_nil (pk [] rfl w s), rfl, ⟨_, _, _, rfl⟩⟩
  · refine Body.pure h.len ?_
    rintro ⟨hl, hm⟩
    refine Body.skip ?_
    refine Then.next ?_
    refine Body.seq ?_
    refine Body.region ?_
    refine Ops.s (Stp.buildSlice0 Try.underlying58 ty127 (fun b5 => ?_)) rfl
    refine Ops.u (Dtu.mv (lk rfl)) rfl ?_
    refine Ops.s (Stp.appendNew Try.underlying58 ty127 rfl (lk rfl) (lk rfl) h.up h1 hb hm (fun v7 => ?_)) rfl
    refine Ops.pure (Sl.isSl (Sl.osl 0 rfl)) fun hsl => ?_
    refine Ops.u (Dtu.asg (lk rfl)) rfl ?_
    refine Ops.nil ?_
    refine Then.next ?_
    refine Body.ret ?_
    exact ⟨.inr rfl, _, pk [0] rfl, rfl, hsl⟩

theorem and_mask {a : Int} (h0 : 0 ≤ a) (h1 : a < 4294967296) : ibit .and .u64 a 4294967295 = a := by
  obtain ⟨n, rfl⟩ := Int.eq_ofNat_of_zero_le h0
  have e1 : BitVec.ofInt IntKind.u64.bits (n : Int) = BitVec.ofNat IntKind.u64.bits n := by rw [← BitVec.ofInt_natCast]
  have e2 : BitVec.ofInt IntKind.u64.bits (4294967295 : Int) = BitVec.ofNat IntKind.u64.bits 4294967295 := rfl
  simp only [ibit, e1, e2, BitVec.toNat_and, BitVec.toNat_ofNat]
  rw [Nat.mod_eq_of_lt (by simp [IntKind.bits]; omega), Nat.mod_eq_of_lt (by simp [IntKind.bits])]
  have : (4294967295 : Nat) = 2 ^ 32 - 1 := by decide
  rw [this, Nat.and_two_pow_sub_one_eq_mod, Nat.mod_eq_of_lt (by omega)]
  exact wu64 (by omega) (by omega)
theorem shr_32 {a : Int} (h0 : 0 ≤ a) : a.fdiv (2 ^ (min (32 : Int).toNat IntKind.u64.bits)) = a / 4294967296 := by
  have : (2 : Int) ^ (min (32 : Int).toNat IntKind.u64.bits) = 4294967296 := by decide
  rw [this, Int.fdiv_eq_ediv_of_nonneg _ (by omega)]
theorem mul64_ok (E : Env) (x y : Int) (hx : 0 ≤ x ∧ x < 4294967296) (hy : 0 ≤ y ∧ y < 4294967296) : Does Try.prog 120 #[.int .u64 x, .int .u64 y] E [] fun r H' => r = .tuple #[.int .u64 0, .int .u64 (x * y)] ∧ H' = [] := by
  have hxy : 0 ≤ x * y := Int.mul_nonneg hx.1 hy.1
  have hxy2 : x * y < 18446744073709551616 := by
    have : x * y ≤ 4294967295 * 4294967295 := Int.mul_le_mul (by omega) (by omega) hy.1 (by omega)
    omega
  have a1 := and_mask hx.1 hx.2
  have a2 := and_mask hy.1 hy.2
  have s1 : x.fdiv (2 ^ (min (32 : Int).toNat IntKind.u64.bits)) = 0 := by rw [shr_32 hx.1]; omega
  have s2 : y.fdiv (2 ^ (min (32 : Int).toNat IntKind.u64.bits)) = 0 := by rw [shr_32 hy.1]; omega
  have m1 := wu64 hxy (by omega)
  have z1 : IntKind.u64.wrap (0 * y) = 0 := by rw [Int.zero_mul]; rfl
  have z2 : IntKind.u64.wrap (x * 0) = 0 := by rw [Int.mul_zero]; rfl
  have z3 : IntKind.u64.wrap (0 * 0) = 0 := rfl
  have s3 : (x * y).fdiv (2 ^ (min (32 : Int).toNat IntKind.u64.bits)) = x * y / 4294967296 := shr_32 hxy
  have z4 : IntKind.u64.wrap (0 + x * y / 4294967296) = x * y / 4294967296 := by rw [Int.zero_add]; exact wu64 (by omega) (by omega)
  have a3 := and_mask (a := x * y / 4294967296) (by omega) (by omega)
  have s4 : (x * y / 4294967296).fdiv (2 ^ (min (32 : Int).toNat IntKind.u64.bits)) = 0 := by rw [shr_32 (by omega)]; omega
  have z5 : IntKind.u64.wrap (x * y / 4294967296 + 0) = x * y / 4294967296 := by rw [Int.add_zero]; exact wu64 (by omega) (by omega)
  have z6 : IntKind.u64.wrap (0 + 0) = 0 := rfl
  refine Does.go (args := [.int .u64 x, .int .u64 y]) _ _ Try.func120 rfl Try.ntmps120 rfl rfl ?_
  refine Body.seq ?_
  refine Body.region ?_
  refine Ops.u (Dtu.asg (lk rfl)) rfl ?_
  refine Ops.u (Dtu.asg (lk rfl)) rfl ?_
  refine Ops.nil ?_
  refine Then.next ?_
  refine Body.seq ?_
  refine Body.region ?_
  refine Ops.u (Dtu.mv (lk rfl)) rfl ?_
  refine Ops.u (Dtu.bit rfl (lk rfl) (lk rfl) (by with_reducible assumption)) rfl ?_
  refine Ops.u (Dtu.asg (lk rfl)) rfl ?_
  refine Ops.nil ?_
  refine Then.next ?_
  refine Body.seq ?_
  refine Body.region ?_
  refine Ops.u (Dtu.mv (lk rfl)) rfl ?_
  refine Ops.u (Dtu.shr (lk rfl) (lk rfl) (by first | decide | omega) (by with_reducible assumption)) rfl ?_
  refine Ops.u (Dtu.asg (lk rfl)) rfl ?_
  refine Ops.nil ?_
  refine Then.next ?_
  refine Body.seq ?_
  refine Body.region ?_
  refine Ops.u (Dtu.mv (lk rfl)) rfl ?_
  refine Ops.u (Dtu.bit rfl (lk rfl) (lk rfl) (by with_reducible assumption)) rfl ?_
  refine Ops.u (Dtu.asg (lk rfl)) rfl ?_
  refine Ops.nil ?_
  refine Then.next ?_
  refine Body.seq ?_
  refine Body.region ?_
  refine Ops.u (Dtu.mv (lk rfl)) rfl ?_
  refine Ops.u (Dtu.shr (lk rfl) (lk rfl) (by first | decide | omega) (by with_reducible assumption)) rfl ?_
  refine Ops.u (Dtu.asg (lk rfl)) rfl ?_
  refine Ops.nil ?_
  refine Then.next ?_
  refine Body.seq ?_
  refine Body.region ?_
  refine Ops.u (Dtu.mv (lk rfl)) rfl ?_
  refine Ops.u (Dtu.mv (lk rfl)) rfl ?_
  refine Ops.u (Dtu.mul (lk rfl) (lk rfl) (by with_reducible assumption)) rfl ?_
  refine Ops.u (Dtu.asg (lk rfl)) rfl ?_
  refine Ops.nil ?_
  refine Then.next ?_
  refine Body.seq ?_
  refine Body.region ?_
  refine Ops.u (Dtu.mv (lk rfl)) rfl ?_
  refine Ops.u (Dtu.mv (lk rfl)) rfl ?_
  refine Ops.u (Dtu.mul (lk rfl) (lk rfl) (by with_reducible assumption)) rfl ?_
  refine Ops.u (Dtu.mv (lk rfl)) rfl ?_
  refine Ops.u (Dtu.shr (lk rfl) (lk rfl) (by first | decide | omega) (by with_reducible assumption)) rfl ?_
  refine Ops.u (Dtu.add (lk rfl) (lk rfl) (by with_reducible assumption)) rfl ?_
  refine Ops.u (Dtu.asg (lk rfl)) rfl ?_
  refine Ops.nil ?_
  refine Then.next ?_
  refine Body.seq ?_
  refine Body.region ?_
  refine Ops.u (Dtu.mv (lk rfl)) rfl ?_
  refine Ops.u (Dtu.bit rfl (lk rfl) (lk rfl) (by with_reducible assumption)) rfl ?_
  refine Ops.u (Dtu.asg (lk rfl)) rfl ?_
  refine Ops.nil ?_
  refine Then.next ?_
  refine Body.seq ?_
  refine Body.region ?_
  refine Ops.u (Dtu.mv (lk rfl)) rfl ?_
  refine Ops.u (Dtu.shr (lk rfl) (lk rfl) (by first | decide | omega) (by with_reducible assumption)) rfl ?_
  refine Ops.u (Dtu.asg (lk rfl)) rfl ?_
  refine Ops.nil ?_
  refine Then.next ?_
  refine Body.seq ?_
  refine Body.region ?_
  refine Ops.u (Dtu.mv (lk rfl)) rfl ?_
  refine Ops.u (Dtu.mv (lk rfl)) rfl ?_
  refine Ops.u (Dtu.mv (lk rfl)) rfl ?_
  refine Ops.u (Dtu.mul (lk rfl) (lk rfl) (by with_reducible assumption)) rfl ?_
  refine Ops.u (Dtu.add (lk rfl) (lk rfl) (by with_reducible assumption)) rfl ?_
  refine Ops.u (Dtu.asg (lk rfl)) rfl ?_
  refine Ops.nil ?_
  refine Then.next ?_
  refine Body.seq ?_
  refine Body.region ?_
  refine Ops.u (Dtu.mv (lk rfl)) rfl ?_
  refine Ops.u (Dtu.mv (lk rfl)) rfl ?_
  refine Ops.u (Dtu.mul (lk rfl) (lk rfl) (by with_reducible assumption)) rfl ?_
  refine Ops.u (Dtu.mv (lk rfl)) rfl ?_
  refine Ops.u (Dtu.add (lk rfl) (lk rfl) (by with_reducible assumption)) rfl ?_
  refine Ops.u (Dtu.mv (lk rfl)) rfl ?_
  refine Ops.u (Dtu.shr (lk rfl) (lk rfl) (by first | decide | omega) (by with_reducible assumption)) rfl ?_
  refine Ops.u (Dtu.add (lk rfl) (lk rfl) (by with_reducible assumption)) rfl ?_
  refine Ops.u (Dtu.asg (lk rfl)) rfl ?_
  refine Ops.nil ?_
  refine Then.next ?_
  refine Body.seq ?_
  refine Body.region ?_
  refine Ops.u (Dtu.mv (lk rfl)) rfl ?_
  refine Ops.u (Dtu.mv (lk rfl)) rfl ?_
  refine Ops.u (Dtu.mul (lk rfl) (lk rfl) (by with_reducible assumption)) rfl ?_
  refine Ops.u (Dtu.asg (lk rfl)) rfl ?_
  refine Ops.nil ?_
  refine Then.next ?_
  refine Body.ret ?_
  exact ⟨.inr rfl, _, pk [] rfl, rfl, rfl⟩
theorem mul_ok (E : Env) (x y : Int) (hx : 0 ≤ x ∧ x < 4294967296) (hy : 0 ≤ y ∧ y < 4294967296) : Does Try.prog 117 #[.int .u64 x, .int .u64 y] E [] fun r H' => r = .tuple #[.int .u64 0, .int .u64 (x * y)] ∧ H' = [] := by
  have hxy : 0 ≤ x * y := Int.mul_nonneg hx.1 hy.1
  have hxy2 : x * y < 18446744073709551616 := by
    have : x * y ≤ 4294967295 * 4294967295 := Int.mul_le_mul (by omega) (by omega) hy.1 (by omega)
    omega
  refine Does.go (args := [.int .u64 x, .int .u64 y]) _ _ Try.func117 rfl Try.ntmps117 rfl rfl ?_
  refine Body.seq ?_
  refine Body.region ?_
  refine Ops.u (Dtu.asg (lk rfl)) rfl ?_
  refine Ops.u (Dtu.asg (lk rfl)) rfl ?_
  refine Ops.nil ?_
  refine Then.next ?_
  refine Body.seq ?_
  refine Body.condF (lk rfl) ?_
  refine Body.skip ?_
  refine Then.next ?_
  refine Body.seq ?_
  refine Body.region ?_
  refine Ops.u (Dtu.mv (lk rfl)) rfl ?_
  refine Ops.u (Dtu.mv (lk rfl)) rfl ?_
  refine Ops.s (Stp.call rfl Try.call120 (lks rfl) (fun E' le hat => mul64_ok E' _ _ hx hy) ?_) rfl
  rintro _ _ ⟨rfl, rfl⟩
  refine Ops.u (Dtu.mv (lk rfl)) rfl ?_
  refine Ops.u (Dtu.ext (lk rfl) rfl) rfl ?_
  refine Ops.u (Dtu.ext (lk rfl) rfl) rfl ?_
  refine Ops.u (Dtu.asg (lk rfl)) rfl ?_
  refine Ops.u (Dtu.asg (lk rfl)) rfl ?_
  refine Ops.nil ?_
  refine Then.next ?_
  refine Body.seq ?_
  refine Body.region ?_
  refine Ops.u (Dtu.mv (lk rfl)) rfl ?_
  refine Ops.u (Dtu.mv (lk rfl)) rfl ?_
  refine Ops.u (Dtu.asg (lk rfl)) rfl ?_
  refine Ops.u (Dtu.asg (lk rfl)) rfl ?_
  refine Ops.nil ?_
  refine Then.next ?_
  refine Body.ret ?_
  exact ⟨.inr rfl, _, pk [] rfl, rfl, rfl⟩

/-- slices.Repeat of one element -/
def repeatCB (c : List Value) : Bool → List Value
  | true => c
  | false => [.int .i32 0, .int .u8 0, .int .u32 0, .int .u32 0]
theorem repeatC_mix (n k : Nat) (hn : n ≤ k) : (List.replicate n true ++ List.replicate (k - n) false).take n ++ (((List.replicate n true ++ List.replicate (k - n) false).drop 0).take (n - 0)).take (Nat.min (n - 0) (k - n)) ++ (List.replicate n true ++ List.replicate (k - n) false).drop (n + Nat.min (n - 0) (k - n)) =
    List.replicate (n + Nat.min n (k - n)) true ++ List.replicate (k - (n + Nat.min n (k - n))) false := by
  have hm : Nat.min n (k - n) ≤ n := Nat.min_le_left _ _
  have hm2 : Nat.min n (k - n) ≤ k - n := Nat.min_le_right _ _
  simp only [Nat.sub_zero, List.drop_zero]
  generalize Nat.min n (k - n) = q at *
  rw [List.take_append_of_le_length (by simp), List.take_of_length_le (by simp), List.take_replicate, Nat.min_eq_left hm, List.drop_append]
  simp only [List.length_replicate, List.drop_replicate]
  rw [show n - (n + q) = 0 by omega, show n + q - n = q by omega, List.replicate_zero, List.nil_append, List.replicate_append_replicate, show k - n - q = k - (n + q) by omega]
theorem repeatC_ok (E : Env) (v : Value) (c : List Value) (k : Nat) (h : Sl E [] 4 v 1 c) (h1 : c.all (·.oneCell') = true) (hk : k < 4294967296) : Does Try.prog 111 #[v, .int .i64 k] E [] fun r H' => H' = [osl 127 4 r k (List.replicate k c).flatten] ∧ IsSl r := by
  refine Does.pure h.len fun hlen => ?_
  have hB : ∀ b, (repeatCB c b).length = 4 := fun b => by cases b <;> simp [repeatCB, hlen.1]
  have hB1 : ∀ b, (repeatCB c b).all (·.oneCell') = true := fun b => match b with
    | true => h1
    | false => rfl
  have h' : Sl E [] 4 v 1 ([true].flatMap (repeatCB c)) := by simpa [repeatCB] using h
  refine Does.go (args := [v, .int .i64 k]) _ _ Try.func111 rfl Try.ntmps111 rfl rfl ?_
  refine Body.seq ?_
  refine Body.region ?_
  refine Ops.u (Dtu.asg (lk rfl)) rfl ?_
  refine Ops.nil ?_
  refine Then.next ?_
  refine Body.seq ?_
  refine Body.seq ?_
  refine Body.region ?_
  refine Ops.u (Dtu.mv (lk rfl)) rfl ?_
  refine Ops.u (Dtu.lss (lk rfl) (lk rfl)) rfl ?_
  refine Ops.nil ?_
  refine Then.next ?_
  refine Body.condP (lk rfl) (fun hy => absurd hy (by first | omega | assumption | decide)) (fun _ => ?_)
  refine Body.skip ?_
  refine Then.next ?_
  refine Body.seq ?_
  refine Body.region ?_
  refine Ops.u (Dtu.mv (lk rfl)) rfl ?_
  refine Ops.u (Dtu.lenS Try.underlying58 (Sl.up h) (lk rfl)) rfl ?_
  refine Ops.u (Dtu.cvt Try.underlying3 Try.underlying122 (lk rfl) (wu64 (by omega) (by omega))) rfl ?_
  refine Ops.u (Dtu.mv (lk rfl)) rfl ?_
  refine Ops.u (Dtu.cvt Try.underlying3 Try.underlying122 (lk rfl) (wu64 (by omega) (by omega))) rfl ?_
  refine Ops.s (Stp.call rfl Try.call117 (lks rfl) (fun E' le hat => (mul_ok E' (↑(1 : Nat)) k (by omega) (by omega)).mono (fun r H' q => by rw [show (↑(1 : Nat) : Int) * (k : Int) = k by omega] at q; exact q)) ?_) rfl
  rintro _ _ ⟨rfl, rfl⟩
  refine Ops.u (Dtu.mv (lk rfl)) rfl ?_
  refine Ops.u (Dtu.ext (lk rfl) rfl) rfl ?_
  refine Ops.u (Dtu.ext (lk rfl) rfl) rfl ?_
  refine Ops.u (Dtu.asg (lk rfl)) rfl ?_
  refine Ops.u (Dtu.asg (lk rfl)) rfl ?_
  refine Ops.nil ?_
  refine Then.next ?_
  refine Body.seq ?_
  refine Body.seq ?_
  refine Body.region ?_
  refine Ops.u (Dtu.mv (lk rfl)) rfl ?_
  refine Ops.u (Dtu.gtr (lk rfl) (lk rfl)) rfl ?_
  refine Ops.u (Dtu.mv (lk rfl)) rfl ?_
  refine Ops.decP 23 rfl (fun hy => absurd hy (by first | omega | assumption | decide)) (fun _ => ?_)
  refine Ops.gu rfl rfl rfl (Dtu.mv (lk rfl)) rfl ?_
  refine Ops.gu rfl rfl rfl (Dtu.gtr (lk rfl) (lk rfl)) rfl ?_
  refine Ops.u (Dtu.pickF (lk rfl) (lk rfl)) rfl ?_
  refine Ops.nil ?_
  refine Then.next ?_
  refine Body.condP (lk rfl) (fun hy => absurd hy (by first | omega | assumption | decide)) (fun _ => ?_)
  refine Body.skip ?_
  refine Then.next ?_
  refine Body.seq ?_
  refine Body.region ?_
  refine Ops.u (Dtu.mv (lk rfl)) rfl ?_
  refine Ops.u (Dtu.cvt Try.underlying122 Try.underlying3 (lk rfl) (w64 (by omega) (by omega))) rfl ?_
  refine Ops.s (Stp.make (m := (k)) Try.underlying58 ty127 rfl (lk rfl) (lk rfl) (by omega) (by omega) (by omega) (fun v30 => ?_)) rfl
  refine Ops.u (Dtu.asg (lk rfl)) rfl ?_
  refine Ops.nil ?_
  refine Then.next ?_
  refine Body.seq ?_
  refine Body.region ?_
  refine Ops.u (Dtu.mv (lk rfl)) rfl ?_
  refine Ops.u (Dtu.mv (lk rfl)) rfl ?_
  rw [show (List.replicate k [.int .i32 0, .int .u8 0, .int .u32 0, .int .u32 0]).flatten = (List.replicate k false).flatMap (repeatCB c) from rep_flat (enc := repeatCB c) false k]
  refine Ops.s (Stp.copyF 0 hB Try.underlying58 Try.sizeOf127 rfl (lk rfl) (LiesIn.whole (Sl.osl 0 rfl)) (by omega) (lk rfl) h'.up hB1 rfl ?_) rfl
  refine Ops.u (Dtu.asg (lk rfl)) rfl ?_
  refine Ops.nil ?_
  refine Then.next ?_
  refine Body.seq ?_
  refine Body.block ?_
  refine Body.loopF (γ := Nat) rfl (fun n => [(8, .int .i64 n)]) (fun n => [osl 127 4 v30 k ((List.replicate n true ++ List.replicate (k - n) false).flatMap (repeatCB c))]) (fun n => n ≤ k ∧ (k = 0 ∨ 1 ≤ n)) (fun n => k - n) (Nat.min 1 k) ?_ ⟨rfl, trivial⟩ ?_ ?_
  · have := Nat.min_le_right 1 k
    refine ⟨this, ?_⟩
    by_cases hk0 : k = 0
    · exact .inl hk0
    · exact .inr (Nat.le_min.2 ⟨Nat.le_refl _, by omega⟩)
  · congr 2
    by_cases hk0 : k = 0
    · subst hk0; rfl
    · have : Nat.min 1 k = 1 := Nat.min_eq_left (by omega)
      rw [this]; simp
  · rintro n u ⟨hn, hn1⟩
    have hs := Sl.subF hB (E := E) (H := [osl 127 4 v30 k ((List.replicate n true ++ List.replicate (k - n) false).flatMap (repeatCB c))]) (Sl.osl 0 rfl) 0 n (by omega) (by omega)
    refine Body.seq ?_
    refine Body.seq ?_
    refine Body.region ?_
    refine Ops.u (Dtu.mv (lk rfl)) rfl ?_
    refine Ops.u (Dtu.mv (lk rfl)) rfl ?_
    refine Ops.u (Dtu.lenS Try.underlying58 (Sl.osl 0 rfl) (lk rfl)) rfl ?_
    refine Ops.u (Dtu.lss (lk rfl) (lk rfl)) rfl ?_
    refine Ops.nil ?_
    refine Then.next ?_
    refine Body.condP (lk rfl) (fun c37 => ?_) (fun c37 => ?_)
    · refine Body.skip ?_
      refine Then.next ?_
      refine Body.block ?_
      refine Body.draw mixed ?_
      refine AB.u 0 rfl (by decide +kernel) (Dtu.mv (lk rfl)) rfl ?_
      refine AB.u 1 rfl (by decide +kernel) (Dtu.mv (lk rfl)) rfl ?_
      refine AB.u 2 rfl (by decide +kernel) (Dtu.mv (lk rfl)) rfl ?_
      refine AB.u 3 rfl (by decide +kernel) (Dtu.slL (n) Try.underlying58 Try.sizeOf127 (Sl.osl 0 rfl) (lk rfl) (lk rfl) (by omega) (by omega)) rfl ?_
      refine AB.u 4 rfl (by decide +kernel) (Dtu.mv (lk rfl)) rfl ?_
      refine AB.u 5 rfl (by decide +kernel) (Dtu.mv (lk rfl)) rfl ?_
      refine AB.u 6 rfl (by decide +kernel) (Dtu.slH (n) Try.underlying58 Try.sizeOf127 (Sl.osl 0 rfl) (lk rfl) (lk rfl) (by omega) (by omega)) rfl ?_
      refine AB.s 7 rfl (by decide +kernel) (by decide +kernel) (Stp.copyF 0 hB Try.underlying58 Try.sizeOf127 rfl (lk rfl) (LiesIn.sub' (Sl.osl 0 rfl) (by omega) (by omega)) (by omega) (lk rfl) hs hB1 rfl ?_) rfl
      have hm : Nat.min (n - 0) (k - n) ≤ k - n := Nat.min_le_right _ _
      have hm2 : 1 ≤ Nat.min (n - 0) (k - n) := Nat.le_min.2 ⟨by omega, by omega⟩
      rw [repeatC_mix n k hn]
      rw [Nat.sub_zero] at *
      generalize Nat.min n (k - n) = q at *
      refine AB.u 8 rfl (by decide +kernel) (Dtu.add (lk rfl) (lk rfl) (w64 (by omega) (by omega))) rfl ?_
      refine AB.u 9 rfl (by decide +kernel) (Dtu.asg (lk rfl)) rfl ?_
      refine AB.done (by decide +kernel) ?_
      refine Blk.norm ?_
      exact Round.goF (n + q) rfl rfl rfl ⟨int_eq (by omega), trivial⟩ rfl ⟨by omega, by omega⟩ (by omega)
    · obtain rfl : n = k := by omega
      refine Body.pure (Sl.isSl (Sl.osl 0 rfl)) fun hsl => ?_
      refine Body.exit ?_
      refine Then.exit ?_
      refine Round.exit ?_
      refine Blk.here ?_
      refine Then.next ?_
      refine Body.seq ?_
      refine Body.region ?_
      refine Ops.u (Dtu.mv (lk rfl)) rfl ?_
      refine Ops.u (Dtu.asg (lk rfl)) rfl ?_
      refine Ops.nil ?_
      refine Then.next ?_
      refine Body.ret ?_
      refine ⟨.inr rfl, _, pk [0] rfl, ?_, hsl⟩
      rw [Nat.sub_self, List.replicate_zero, List.append_nil, ← rep_flat]; rfl

end Go.Proofs.Ytagcpamchgpgiaa
end
section
/- A cell and a style: which may be, and their bytes. -/
namespace Go.Proofs.Ytagcpamchgpgiaa
set_option maxRecDepth 100000
set_option linter.unusedVariables false
set_option linter.unusedSimpArgs false
open Go.Sx

def isPt (p : Int) : Bool := decide (0 ≤ p ∧ p ≤ 1114111 ∧ (p < 55296 ∨ 57343 < p))
def isCol (c : Int) : Bool := decide (c = 0 ∨ (16777216 ≤ c ∧ c ≤ 16777471) ∨ (33554432 ≤ c ∧ c < 50331648))
theorem bool_eq {a b : Bool} (h : a = true ↔ b = true) : Value.bool a = Value.bool b := by
  congr 1; cases a <;> cases b <;> simp_all
theorem utfIs_ok (E : Env) (p : Int) : Does Try.prog 103 #[.int .i32 p] E [] fun r H' => r = .bool (isPt p) ∧ H' = [] := by
  refine Does.go (args := [.int .i32 p]) _ _ Try.func103 rfl Try.ntmps103 rfl rfl ?_
  refine Body.seq ?_
  refine Body.region ?_
  refine Ops.u (Dtu.asg (lk rfl)) rfl ?_
  refine Ops.nil ?_
  refine Then.next ?_
  refine Body.seq ?_
  refine Body.region ?_
  refine Ops.u (Dtu.mv (lk rfl)) rfl ?_
  refine Ops.u (Dtu.geq (lk rfl) (lk rfl)) rfl ?_
  refine Ops.u (Dtu.mv (lk rfl)) rfl ?_
  refine Ops.decP 5 rfl (fun c5 => ?_) (fun c5 => ?_)
  · refine Ops.gu rfl rfl rfl (Dtu.mv (lk rfl)) rfl ?_
    refine Ops.gu rfl rfl rfl (Dtu.leq (lk rfl) (lk rfl)) rfl ?_
    refine Ops.u (Dtu.pickT (lk rfl) (lk rfl)) rfl ?_
    refine Ops.u (Dtu.mv (lk rfl)) rfl ?_
    refine Ops.decP 9 rfl (fun c9 => ?_) (fun c9 => ?_)
    · refine Ops.gu rfl rfl rfl (Dtu.mv (lk rfl)) rfl ?_
      refine Ops.gu rfl rfl rfl (Dtu.lss (lk rfl) (lk rfl)) rfl ?_
      refine Ops.gu rfl rfl rfl (Dtu.mv (lk rfl)) rfl ?_
      refine Ops.decP 12 rfl (fun c12 => ?_) (fun c12 => ?_)
      · refine Ops.gn rfl rfl rfl rfl rfl ?_
        refine Ops.gn rfl rfl rfl rfl rfl ?_
        refine Ops.gu rfl rfl rfl (Dtu.pickT (lk rfl) (lk rfl)) rfl ?_
        refine Ops.u (Dtu.pickT (lk rfl) (lk rfl)) rfl ?_
        refine Ops.u (Dtu.asg (lk rfl)) rfl ?_
        refine Ops.nil ?_
        refine Then.next ?_
        refine Body.ret ?_
        (refine ⟨.inr rfl, _, pk [] rfl, bool_eq ?_, rfl⟩; simp [isPt]; omega)
      · refine Ops.gu rfl rfl rfl (Dtu.mv (lk rfl)) rfl ?_
        refine Ops.gu rfl rfl rfl (Dtu.gtr (lk rfl) (lk rfl)) rfl ?_
        refine Ops.gu rfl rfl rfl (Dtu.pickF (lk rfl) (lk rfl)) rfl ?_
        refine Ops.u (Dtu.pickT (lk rfl) (lk rfl)) rfl ?_
        refine Ops.u (Dtu.asg (lk rfl)) rfl ?_
        refine Ops.nil ?_
        refine Then.next ?_
        refine Body.ret ?_
        (refine ⟨.inr rfl, _, pk [] rfl, bool_eq ?_, rfl⟩; simp [isPt]; omega)
    · refine Ops.gn rfl rfl rfl rfl rfl ?_
      refine Ops.gn rfl rfl rfl rfl rfl ?_
      refine Ops.gn rfl rfl rfl rfl rfl ?_
      refine Ops.gn rfl rfl rfl rfl rfl ?_
      refine Ops.gn rfl rfl rfl rfl rfl ?_
      refine Ops.gn rfl rfl rfl rfl rfl ?_
      refine Ops.u (Dtu.pickF (lk rfl) (lk rfl)) rfl ?_
      refine Ops.u (Dtu.asg (lk rfl)) rfl ?_
      refine Ops.nil ?_
      refine Then.next ?_
      refine Body.ret ?_
      (refine ⟨.inr rfl, _, pk [] rfl, bool_eq ?_, rfl⟩; simp [isPt]; omega)
  · refine Ops.gn rfl rfl rfl rfl rfl ?_
    refine Ops.gn rfl rfl rfl rfl rfl ?_
    refine Ops.u (Dtu.pickF (lk rfl) (lk rfl)) rfl ?_
    refine Ops.u (Dtu.mv (lk rfl)) rfl ?_
    refine Ops.gn rfl rfl rfl rfl rfl ?_
    refine Ops.gn rfl rfl rfl rfl rfl ?_
    refine Ops.gn rfl rfl rfl rfl rfl ?_
    refine Ops.gn rfl rfl rfl rfl rfl ?_
    refine Ops.gn rfl rfl rfl rfl rfl ?_
    refine Ops.gn rfl rfl rfl rfl rfl ?_
    refine Ops.u (Dtu.pickF (lk rfl) (lk rfl)) rfl ?_
    refine Ops.u (Dtu.asg (lk rfl)) rfl ?_
    refine Ops.nil ?_
    refine Then.next ?_
    refine Body.ret ?_
    (refine ⟨.inr rfl, _, pk [] rfl, bool_eq ?_, rfl⟩; simp [isPt]; omega)
theorem isColour_ok (E : Env) (c : Int) : Does Try.prog 115 #[.int .u32 c] E [] fun r H' => r = .bool (isCol c) ∧ H' = [] := by
  refine Does.go (args := [.int .u32 c]) _ _ Try.func115 rfl Try.ntmps115 rfl rfl ?_
  refine Body.seq ?_
  refine Body.region ?_
  refine Ops.u (Dtu.asg (lk rfl)) rfl ?_
  refine Ops.nil ?_
  refine Then.next ?_
  refine Body.seq ?_
  refine Body.region ?_
  refine Ops.u (Dtu.mv (lk rfl)) rfl ?_
  refine Ops.u (Dtu.eql (lk rfl) (lk rfl)) rfl ?_
  refine Ops.u (Dtu.mv (lk rfl)) rfl ?_
  refine Ops.decP 5 rfl (fun c5 => ?_) (fun c5 => ?_)
  · refine Ops.gn rfl rfl rfl rfl rfl ?_
    refine Ops.gn rfl rfl rfl rfl rfl ?_
    refine Ops.gn rfl rfl rfl rfl rfl ?_
    refine Ops.gn rfl rfl rfl rfl rfl ?_
    refine Ops.gn rfl rfl rfl rfl rfl ?_
    refine Ops.gn rfl rfl rfl rfl rfl ?_
    refine Ops.u (Dtu.pickT (lk rfl) (lk rfl)) rfl ?_
    refine Ops.u (Dtu.mv (lk rfl)) rfl ?_
    refine Ops.gn rfl rfl rfl rfl rfl ?_
    refine Ops.gn rfl rfl rfl rfl rfl ?_
    refine Ops.gn rfl rfl rfl rfl rfl ?_
    refine Ops.gn rfl rfl rfl rfl rfl ?_
    refine Ops.gn rfl rfl rfl rfl rfl ?_
    refine Ops.gn rfl rfl rfl rfl rfl ?_
    refine Ops.u (Dtu.pickT (lk rfl) (lk rfl)) rfl ?_
    refine Ops.u (Dtu.asg (lk rfl)) rfl ?_
    refine Ops.nil ?_
    refine Then.next ?_
    refine Body.ret ?_
    (refine ⟨.inr rfl, _, pk [] rfl, bool_eq ?_, rfl⟩; simp [isCol]; omega)
  · refine Ops.gu rfl rfl rfl (Dtu.mv (lk rfl)) rfl ?_
    refine Ops.gu rfl rfl rfl (Dtu.geq (lk rfl) (lk rfl)) rfl ?_
    refine Ops.gu rfl rfl rfl (Dtu.mv (lk rfl)) rfl ?_
    refine Ops.decP 8 rfl (fun c8 => ?_) (fun c8 => ?_)
    · refine Ops.gu rfl rfl rfl (Dtu.mv (lk rfl)) rfl ?_
      refine Ops.gu rfl rfl rfl (Dtu.leq (lk rfl) (lk rfl)) rfl ?_
      refine Ops.gu rfl rfl rfl (Dtu.pickT (lk rfl) (lk rfl)) rfl ?_
      refine Ops.u (Dtu.pickF (lk rfl) (lk rfl)) rfl ?_
      refine Ops.u (Dtu.mv (lk rfl)) rfl ?_
      refine Ops.decP 13 rfl (fun c13 => ?_) (fun c13 => ?_)
      · refine Ops.gn rfl rfl rfl rfl rfl ?_
        refine Ops.gn rfl rfl rfl rfl rfl ?_
        refine Ops.gn rfl rfl rfl rfl rfl ?_
        refine Ops.gn rfl rfl rfl rfl rfl ?_
        refine Ops.gn rfl rfl rfl rfl rfl ?_
        refine Ops.gn rfl rfl rfl rfl rfl ?_
        refine Ops.u (Dtu.pickT (lk rfl) (lk rfl)) rfl ?_
        refine Ops.u (Dtu.asg (lk rfl)) rfl ?_
        refine Ops.nil ?_
        refine Then.next ?_
        refine Body.ret ?_
        (refine ⟨.inr rfl, _, pk [] rfl, bool_eq ?_, rfl⟩; simp [isCol]; omega)
      · refine Ops.gu rfl rfl rfl (Dtu.mv (lk rfl)) rfl ?_
        refine Ops.gu rfl rfl rfl (Dtu.geq (lk rfl) (lk rfl)) rfl ?_
        refine Ops.gu rfl rfl rfl (Dtu.mv (lk rfl)) rfl ?_
        refine Ops.decP 16 rfl (fun c16 => ?_) (fun c16 => ?_)
        · refine Ops.gu rfl rfl rfl (Dtu.mv (lk rfl)) rfl ?_
          refine Ops.gu rfl rfl rfl (Dtu.lss (lk rfl) (lk rfl)) rfl ?_
          refine Ops.gu rfl rfl rfl (Dtu.pickT (lk rfl) (lk rfl)) rfl ?_
          refine Ops.u (Dtu.pickF (lk rfl) (lk rfl)) rfl ?_
          refine Ops.u (Dtu.asg (lk rfl)) rfl ?_
          refine Ops.nil ?_
          refine Then.next ?_
          refine Body.ret ?_
          (refine ⟨.inr rfl, _, pk [] rfl, bool_eq ?_, rfl⟩; simp [isCol]; omega)
        · refine Ops.gn rfl rfl rfl rfl rfl ?_
          refine Ops.gn rfl rfl rfl rfl rfl ?_
          refine Ops.gu rfl rfl rfl (Dtu.pickF (lk rfl) (lk rfl)) rfl ?_
          refine Ops.u (Dtu.pickF (lk rfl) (lk rfl)) rfl ?_
          refine Ops.u (Dtu.asg (lk rfl)) rfl ?_
          refine Ops.nil ?_
          refine Then.next ?_
          refine Body.ret ?_
          (refine ⟨.inr rfl, _, pk [] rfl, bool_eq ?_, rfl⟩; simp [isCol]; omega)
    · refine Ops.gn rfl rfl rfl rfl rfl ?_
      refine Ops.gn rfl rfl rfl rfl rfl ?_
      refine Ops.gu rfl rfl rfl (Dtu.pickF (lk rfl) (lk rfl)) rfl ?_
      refine Ops.u (Dtu.pickF (lk rfl) (lk rfl)) rfl ?_
      refine Ops.u (Dtu.mv (lk rfl)) rfl ?_
      refine Ops.gu rfl rfl rfl (Dtu.mv (lk rfl)) rfl ?_
      refine Ops.gu rfl rfl rfl (Dtu.geq (lk rfl) (lk rfl)) rfl ?_
      refine Ops.gu rfl rfl rfl (Dtu.mv (lk rfl)) rfl ?_
      refine Ops.decP 16 rfl (fun hy => absurd hy (by first | omega | assumption | decide)) (fun _ => ?_)
      refine Ops.gn rfl rfl rfl rfl rfl ?_
      refine Ops.gn rfl rfl rfl rfl rfl ?_
      refine Ops.gu rfl rfl rfl (Dtu.pickF (lk rfl) (lk rfl)) rfl ?_
      refine Ops.u (Dtu.pickF (lk rfl) (lk rfl)) rfl ?_
      refine Ops.u (Dtu.asg (lk rfl)) rfl ?_
      refine Ops.nil ?_
      refine Then.next ?_
      refine Body.ret ?_
      (refine ⟨.inr rfl, _, pk [] rfl, bool_eq ?_, rfl⟩; simp [isCol]; omega)
structure Cell where
  pt : Int
  fl : Int
  fg : Int
  bg : Int
  deriving DecidableEq, Inhabited
def Cell.enc (c : Cell) : List Value := [.int .i32 c.pt, .int .u8 c.fl, .int .u32 c.fg, .int .u32 c.bg]
def Cell.style (c : Cell) : List Value := [.int .u8 c.fl, .int .u32 c.fg, .int .u32 c.bg]
/-- what a cell's memory may hold -/
def Cell.In (c : Cell) : Prop := 0 ≤ c.fl ∧ c.fl < 256 ∧ 0 ≤ c.fg ∧ c.fg < 4294967296 ∧ 0 ≤ c.bg ∧ c.bg < 4294967296
def okSty (fg bg : Int) : Bool := isCol fg && isCol bg
def okCell (pt fg bg : Int) : Bool := isPt pt && okSty fg bg
abbrev Cell.okStyle (c : Cell) : Bool := okSty c.fg c.bg
abbrev Cell.ok (c : Cell) : Bool := okCell c.pt c.fg c.bg
theorem styleRight_ok (E : Env) (fl fg bg : Int) : Does Try.prog 104 #[.agg #[.int .u8 fl, .int .u32 fg, .int .u32 bg]] E [] fun r H' => r = .bool (okSty fg bg) ∧ H' = [] := by
  refine Does.go (args := [.agg #[.int .u8 fl, .int .u32 fg, .int .u32 bg]]) _ _ Try.func104 rfl Try.ntmps104 rfl rfl ?_
  refine Body.seq ?_
  refine Body.region ?_
  refine Ops.s (Stp.box (lk rfl) rfl (fun b1 => ?_)) rfl
  refine Ops.u (Dtu.asg (lk rfl)) rfl ?_
  refine Ops.nil ?_
  refine Then.next ?_
  refine Body.seq ?_
  refine Body.region ?_
  refine Ops.u (Dtu.fld fa125_1 (lk rfl)) rfl ?_
  refine Ops.d (Det.ld Try.isAgg123 (lk rfl) (Rd.ow 0 rfl rfl)) rfl ?_
  refine Ops.s (Stp.call rfl Try.call115 (lks rfl) (fun E' le hat => isColour_ok E' _) ?_) rfl
  rintro _ _ ⟨rfl, rfl⟩
  refine Ops.u (Dtu.mv (lk rfl)) rfl ?_
  refine Ops.dec 6 rfl (fun c6 => ?_) (fun c6 => ?_)
  · refine Ops.gu rfl rfl rfl (Dtu.fld fa125_2 (lk rfl)) rfl ?_
    refine Ops.gd rfl rfl rfl (Det.ld Try.isAgg123 (lk rfl) (Rd.ow 0 rfl rfl)) rfl ?_
    refine Ops.gs rfl rfl rfl (Stp.call rfl Try.call115 (lks rfl) (fun E' le hat => isColour_ok E' _) ?_) rfl
    rintro _ _ ⟨rfl, rfl⟩
    refine Ops.u (Dtu.pickT (lk rfl) (lk rfl)) rfl ?_
    refine Ops.u (Dtu.asg (lk rfl)) rfl ?_
    refine Ops.nil ?_
    refine Then.next ?_
    refine Body.ret ?_
    (refine ⟨.inr rfl, _, pk [] rfl, bool_eq ?_, rfl⟩; simp [okSty, *])
  · refine Ops.gn rfl rfl rfl rfl rfl ?_
    refine Ops.gn rfl rfl rfl rfl rfl ?_
    refine Ops.gn rfl rfl rfl rfl rfl ?_
    refine Ops.u (Dtu.pickF (lk rfl) (lk rfl)) rfl ?_
    refine Ops.u (Dtu.asg (lk rfl)) rfl ?_
    refine Ops.nil ?_
    refine Then.next ?_
    refine Body.ret ?_
    (refine ⟨.inr rfl, _, pk [] rfl, bool_eq ?_, rfl⟩; simp [okSty, *])
theorem isCell_ok (E : Env) (pt fl fg bg : Int) : Does Try.prog 81 #[.agg #[.int .i32 pt, .int .u8 fl, .int .u32 fg, .int .u32 bg]] E [] fun r H' => r = .bool (okCell pt fg bg) ∧ H' = [] := by
  refine Does.go (args := [.agg #[.int .i32 pt, .int .u8 fl, .int .u32 fg, .int .u32 bg]]) _ _ Try.func81 rfl Try.ntmps81 rfl rfl ?_
  refine Body.seq ?_
  refine Body.region ?_
  refine Ops.s (Stp.box (lk rfl) rfl (fun b1 => ?_)) rfl
  refine Ops.u (Dtu.asg (lk rfl)) rfl ?_
  refine Ops.nil ?_
  refine Then.next ?_
  refine Body.seq ?_
  refine Body.region ?_
  refine Ops.u (Dtu.fld fa127_0 (lk rfl)) rfl ?_
  refine Ops.d (Det.ld Try.isAgg21 (lk rfl) (Rd.ow 0 rfl rfl)) rfl ?_
  refine Ops.s (Stp.call rfl Try.call103 (lks rfl) (fun E' le hat => utfIs_ok E' _) ?_) rfl
  rintro _ _ ⟨rfl, rfl⟩
  refine Ops.u (Dtu.mv (lk rfl)) rfl ?_
  refine Ops.dec 6 rfl (fun c6 => ?_) (fun c6 => ?_)
  · refine Ops.gu rfl rfl rfl (Dtu.fld fa127_1 (lk rfl)) rfl ?_
    refine Ops.gd rfl rfl rfl (Det.lda Try.isAgg125 Try.sizeOf125 (lk rfl) (Rds.ow (m := 3) 0 rfl rfl) rfl) rfl ?_
    refine Ops.gs rfl rfl rfl (Stp.call rfl Try.call104 (lks rfl) (fun E' le hat => styleRight_ok E' _ _ _) ?_) rfl
    rintro _ _ ⟨rfl, rfl⟩
    refine Ops.u (Dtu.pickT (lk rfl) (lk rfl)) rfl ?_
    refine Ops.u (Dtu.asg (lk rfl)) rfl ?_
    refine Ops.nil ?_
    refine Then.next ?_
    refine Body.ret ?_
    (refine ⟨.inr rfl, _, pk [] rfl, bool_eq ?_, rfl⟩; simp [okCell, *])
  · refine Ops.gn rfl rfl rfl rfl rfl ?_
    refine Ops.gn rfl rfl rfl rfl rfl ?_
    refine Ops.gn rfl rfl rfl rfl rfl ?_
    refine Ops.u (Dtu.pickF (lk rfl) (lk rfl)) rfl ?_
    refine Ops.u (Dtu.asg (lk rfl)) rfl ?_
    refine Ops.nil ?_
    refine Then.next ?_
    refine Body.ret ?_
    (refine ⟨.inr rfl, _, pk [] rfl, bool_eq ?_, rfl⟩; simp [okCell, *])
end Go.Proofs.Ytagcpamchgpgiaa
end
section
/- Views: which may be. -/
namespace Go.Proofs.Ytagcpamchgpgiaa
set_option maxRecDepth 100000
set_option linter.unusedVariables false
set_option linter.unusedSimpArgs false
open Go.Sx

/-- the first place at which p holds; -1: nowhere -/
def firstAt {α : Type} (p : α → Bool) (l : List α) : Int := match l.findIdx? p with
  | some i => i
  | none => -1
theorem firstAt_some {α : Type} [Inhabited α] {p : α → Bool} {l : List α} {i : Nat} (h : i < l.length) (h1 : p l[i]! = true) (h2 : ∀ j, j < i → p l[j]! = false) : firstAt p l = i := by
  have : l.findIdx? p = some i := by
    rw [List.findIdx?_eq_some_iff_getElem]
    refine ⟨h, by rw [getElem!_pos l i h] at h1; exact h1, fun j hj => ?_⟩
    have := h2 j hj
    rw [getElem!_pos l j (by omega)] at this
    simp [this]
  simp [firstAt, this]
theorem firstAt_none {α : Type} [Inhabited α] {p : α → Bool} {l : List α} (h2 : ∀ j, j < l.length → p l[j]! = false) : firstAt p l = -1 := by
  have : l.findIdx? p = none := by
    rw [List.findIdx?_eq_none_iff]
    intro x hx
    obtain ⟨j, hj, rfl⟩ := List.getElem_of_mem hx
    have := h2 j hj
    rwa [getElem!_pos l j hj] at this
  simp [firstAt, this]
theorem firstAt_any {α : Type} (p : α → Bool) (l : List α) : decide (0 ≤ firstAt p l) = l.any p := by
  cases h : l.findIdx? p with
  | none =>
    rw [List.findIdx?_eq_none_iff] at h
    have : l.any p = false := by simpa using h
    simp [firstAt, List.findIdx?_eq_none_iff.2 h, this]
  | some i =>
    have h' := h
    rw [List.findIdx?_eq_some_iff_getElem] at h
    obtain ⟨hi, h1, _⟩ := h
    have : l.any p = true := by rw [List.any_eq_true]; exact ⟨_, List.getElem_mem hi, h1⟩
    simp [firstAt, h', this]
theorem indexC_ok (E : Env) (s : Value) (cs : List Cell) (p : Cell → Bool) (fn : FuncId) (hcall : ∀ args w, (callFunc fn args).run Try.prog w = .ok (.enter fn args) w) (hp : ∀ E c, Does Try.prog fn #[.agg c.enc.toArray] E [] fun r H' => r = .bool (p c) ∧ H' = [])
    (h : Sl E [] 4 s cs.length (cs.flatMap Cell.enc)) : Does Try.prog 102 #[s, .func (.func fn) #[] #[]] E [] fun r H' => r = .int .i64 (firstAt p cs) ∧ H' = [] := by
  refine Does.pure h.len fun hlen => ?_
  refine Does.go (args := [s, .func (.func fn) #[] #[]]) _ _ Try.func102 rfl Try.ntmps102 rfl rfl ?_
  refine Body.seq ?_
  refine Body.region ?_
  refine Ops.u (Dtu.asg (lk rfl)) rfl ?_
  refine Ops.nil ?_
  refine Then.next ?_
  refine Body.seq ?_
  refine Body.seq ?_
  refine Body.region ?_
  refine Ops.u (Dtu.mv (lk rfl)) rfl ?_
  refine Ops.u (Dtu.lenS Try.underlying58 (Sl.up h) (lk rfl)) rfl ?_
  refine Ops.u (Dtu.mv (lk rfl)) rfl ?_
  refine Ops.nil ?_
  refine Then.next ?_
  refine Body.block ?_
  refine Body.loopF (γ := Nat) rfl (fun k => [(8, .int .i64 k)]) (fun _ => []) (fun k => k ≤ cs.length ∧ ∀ j, j < k → p cs[j]! = false) (fun k => cs.length - k) 0 ⟨by omega, fun j hj => by omega⟩ ⟨rfl, trivial⟩ rfl ?_
  rintro k u ⟨hk, hb⟩
  refine Body.seq ?_
  refine Body.region ?_
  refine Ops.u (Dtu.lss (lk rfl) (lk rfl)) rfl ?_
  refine Ops.nil ?_
  refine Then.next ?_
  refine Body.seq ?_
  refine Body.condP (lk rfl) (fun c9 => ?_) (fun c9 => ?_)
  · refine Body.skip ?_
    refine Then.next ?_
    refine Body.seq ?_
    refine Body.block ?_
    refine Body.seq ?_
    refine Body.region ?_
    refine Ops.u (Dtu.mv (lk rfl)) rfl ?_
    refine Ops.u (Dtu.asg (lk rfl)) rfl ?_
    refine Ops.nil ?_
    refine Then.next ?_
    refine Body.seq ?_
    refine Body.region ?_
    refine Ops.u (Dtu.mv (lk rfl)) rfl ?_
    refine Ops.u (Dtu.mv (lk rfl)) rfl ?_
    refine Ops.u (Dtu.mv (lk rfl)) rfl ?_
    refine Ops.u (Dtu.ix (i := (k)) Try.underlying58 Try.sizeOf127 (Sl.up h) (lk rfl) (lk rfl) (by omega) (by omega)) rfl ?_
    refine Ops.d (Det.lda Try.isAgg127 Try.sizeOf127 (lk rfl) (Rds.sl (Sl.up h) (gf (sz := 4) (fun _ => rfl) (by omega))) rfl) rfl ?_
    refine Ops.s (Stp.call rfl hcall (lks rfl) (fun E' le hat => hp E' cs[k]!) ?_) rfl
    rintro _ _ ⟨rfl, rfl⟩
    refine Ops.nil ?_
    refine Then.next ?_
    refine Body.cond (lk rfl) (fun c16 => ?_) (fun c16 => ?_)
    · refine Body.seq ?_
      refine Body.region ?_
      refine Ops.u (Dtu.mv (lk rfl)) rfl ?_
      refine Ops.u (Dtu.asg (lk rfl)) rfl ?_
      refine Ops.nil ?_
      refine Then.next ?_
      refine Body.ret ?_
      refine Blk.ret ?_
      refine Then.ret ?_
      refine Round.ret ?_
      refine Blk.ret ?_
      refine Then.ret ?_
      exact ⟨.inr rfl, _, pk [] rfl, by rw [firstAt_some (by omega) c16 hb]; rfl, rfl⟩
    · refine Body.skip ?_
      refine Blk.norm ?_
      refine Then.next ?_
      refine Body.region ?_
      refine Ops.u (Dtu.add (lk rfl) (lk rfl) (w64 (by omega) (by omega))) rfl ?_
      refine Ops.u (Dtu.mv (lk rfl)) rfl ?_
      refine Ops.nil ?_
      refine Round.goF (k + 1) rfl rfl rfl ⟨int_eq (by omega), trivial⟩ rfl ⟨by omega, fun j hj => ?_⟩ (by omega)
      by_cases e : j = k
      · subst e; exact c16
      · exact hb j (by omega)
  · refine Body.exit ?_
    refine Then.exit ?_
    refine Round.exit ?_
    refine Blk.here ?_
    refine Then.next ?_
    refine Body.seq ?_
    refine Body.region ?_
    refine Ops.u (Dtu.asg (lk rfl)) rfl ?_
    refine Ops.nil ?_
    refine Then.next ?_
    refine Body.ret ?_
    exact ⟨.inr rfl, _, pk [] rfl, by rw [firstAt_none (fun j hj => hb j (by omega))]; rfl, rfl⟩
theorem containsC_ok (E : Env) (s : Value) (cs : List Cell) (p : Cell → Bool) (fn : FuncId) (hcall : ∀ args w, (callFunc fn args).run Try.prog w = .ok (.enter fn args) w) (hp : ∀ E c, Does Try.prog fn #[.agg c.enc.toArray] E [] fun r H' => r = .bool (p c) ∧ H' = [])
    (h : Sl E [] 4 s cs.length (cs.flatMap Cell.enc)) : Does Try.prog 79 #[s, .func (.func fn) #[] #[]] E [] fun r H' => r = .bool (cs.any p) ∧ H' = [] := by
  refine Does.go (args := [s, .func (.func fn) #[] #[]]) _ _ Try.func79 rfl Try.ntmps79 rfl rfl ?_
  refine Body.seq ?_
  refine Body.region ?_
  refine Ops.u (Dtu.asg (lk rfl)) rfl ?_
  refine Ops.nil ?_
  refine Then.next ?_
  refine Body.seq ?_
  refine Body.region ?_
  refine Ops.u (Dtu.mv (lk rfl)) rfl ?_
  refine Ops.u (Dtu.mv (lk rfl)) rfl ?_
  refine Ops.s (Stp.call rfl Try.call102 (lks rfl) (fun E' le hat => indexC_ok E' s cs p fn hcall hp (h.mono le)) ?_) rfl
  rintro _ _ ⟨rfl, rfl⟩
  refine Ops.u (Dtu.geq (lk rfl) (lk rfl)) rfl ?_
  refine Ops.u (Dtu.asg (lk rfl)) rfl ?_
  refine Ops.nil ?_
  refine Then.next ?_
  refine Body.ret ?_
  exact ⟨.inr rfl, _, pk [] rfl, by rw [← firstAt_any]; rfl, rfl⟩
theorem right1_ok (E : Env) (c : Cell) : Does Try.prog 80 #[.agg c.enc.toArray] E [] fun r H' => r = .bool (!c.ok) ∧ H' = [] := by
  refine Does.go (args := [.agg c.enc.toArray]) _ _ Try.func80 rfl Try.ntmps80 rfl rfl ?_
  refine Body.seq ?_
  refine Body.region ?_
  refine Ops.s (Stp.box (lk rfl) rfl (fun b1 => ?_)) rfl
  refine Ops.u (Dtu.asg (lk rfl)) rfl ?_
  refine Ops.nil ?_
  refine Then.next ?_
  refine Body.seq ?_
  refine Body.region ?_
  refine Ops.d (Det.lda Try.isAgg127 Try.sizeOf127 (lk rfl) (Rds.ow (m := 4) 0 rfl rfl) rfl) rfl ?_
  refine Ops.s (Stp.call rfl Try.call81 (lks rfl) (fun E' le hat => isCell_ok E' _ _ _ _) ?_) rfl
  rintro _ _ ⟨rfl, rfl⟩
  refine Ops.u (Dtu.not (lk rfl)) rfl ?_
  refine Ops.u (Dtu.asg (lk rfl)) rfl ?_
  refine Ops.nil ?_
  refine Then.next ?_
  refine Body.ret ?_
  exact ⟨.inr rfl, _, pk [] rfl, rfl, rfl⟩

structure View where
  rows : Int
  cols : Int
  cells : List Cell
  row : Int
  col : Int
  vis : Bool
  deriving DecidableEq, Inhabited
def View.val (v : View) (s : Value) : Value := .agg #[.int .i64 v.rows, .int .i64 v.cols, s, .int .i64 v.row, .int .i64 v.col, .bool v.vis]
def View.has (v : View) (E : Env) (H : List HProp) (s : Value) : Prop := Sl E H 4 s v.cells.length (v.cells.flatMap Cell.enc)
def View.fits (v : View) : Prop := (1 ≤ v.rows ∧ v.rows ≤ 12 ∧ 1 ≤ v.cols ∧ v.cols ≤ 40) ∧ 0 ≤ v.row ∧ v.row < v.rows ∧ 0 ≤ v.col ∧ v.col < v.cols ∧ (v.cells.length : Int) = v.rows * v.cols
instance (v : View) : Decidable v.fits := by unfold View.fits; infer_instance
def View.ok (v : View) : Bool := decide v.fits && v.cells.all Cell.ok
theorem mul_bound {a b : Int} (h : 1 ≤ a ∧ a ≤ 12 ∧ 1 ≤ b ∧ b ≤ 40) : 1 ≤ a * b ∧ a * b ≤ 480 :=
  ⟨by have := Int.mul_le_mul h.1 h.2.2.1 (by omega) (by omega : (0:Int) ≤ a); omega, by have := Int.mul_le_mul h.2.1 h.2.2.2 (by omega) (by omega : (0:Int) ≤ 12); omega⟩
theorem wrap_rc {a b : Int} (h : 1 ≤ a ∧ a ≤ 12 ∧ 1 ≤ b ∧ b ≤ 40) : IntKind.i64.wrap (a * b) = a * b := w64 (by have := mul_bound h; omega) (by have := mul_bound h; omega)
theorem View.fits_w {v : View} : v.fits ↔ ((1 ≤ v.rows ∧ v.rows ≤ 12 ∧ 1 ≤ v.cols ∧ v.cols ≤ 40) ∧ 0 ≤ v.row ∧ v.row < v.rows ∧ 0 ≤ v.col ∧ v.col < v.cols ∧ (v.cells.length : Int) = IntKind.i64.wrap (v.rows * v.cols)) := by
  unfold View.fits
  constructor <;> rintro ⟨h, r⟩ <;> refine ⟨h, ?_⟩ <;> have := wrap_rc h <;> omega
theorem View.ok_no {v : View} (h : ¬ v.fits) : v.ok = false := by simp [View.ok, h]
theorem View.ok_yes {v : View} (h : v.fits) : v.ok = !(v.cells.any fun c => !c.ok) := by simp [View.ok, h, List.any_eq_not_all_not]
theorem right_ok (E : Env) (v : View) (s : Value) (h : v.has E [] s) : Does Try.prog 62 #[v.val s] E [] fun r H' => r = .bool v.ok ∧ H' = [] := by
  unfold View.has at h
  refine Does.pure h.len fun hlen => ?_
  refine Does.pure h.isSl fun hsl => ?_
  refine Does.go (args := [v.val s]) _ _ Try.func62 rfl Try.ntmps62 rfl rfl ?_
  refine Body.seq ?_
  refine Body.region ?_
  refine Ops.s (Stp.box (lk rfl) rfl (fun b1 => ?_)) rfl
  refine Ops.u (Dtu.asg (lk rfl)) rfl ?_
  refine Ops.nil ?_
  refine Then.next ?_
  refine Body.seq ?_
  refine Body.block ?_
  refine Body.seq ?_
  refine Body.region ?_
  refine Ops.u (Dtu.fld fa60_0 (lk rfl)) rfl ?_
  refine Ops.d (Det.ld Try.isAgg3 (lk rfl) (Rd.ow 0 rfl rfl)) rfl ?_
  refine Ops.u (Dtu.lss (lk rfl) (lk rfl)) rfl ?_
  refine Ops.u (Dtu.mv (lk rfl)) rfl ?_
  refine Ops.decP 7 rfl (fun c7 => ?_) (fun c7 => ?_)
  · refine Ops.gn rfl rfl rfl rfl rfl ?_
    refine Ops.gn rfl rfl rfl rfl rfl ?_
    refine Ops.gn rfl rfl rfl rfl rfl ?_
    refine Ops.u (Dtu.pickT (lk rfl) (lk rfl)) rfl ?_
    refine Ops.u (Dtu.mv (lk rfl)) rfl ?_
    refine Ops.gn rfl rfl rfl rfl rfl ?_
    refine Ops.gn rfl rfl rfl rfl rfl ?_
    refine Ops.gn rfl rfl rfl rfl rfl ?_
    refine Ops.u (Dtu.pickT (lk rfl) (lk rfl)) rfl ?_
    refine Ops.u (Dtu.mv (lk rfl)) rfl ?_
    refine Ops.gn rfl rfl rfl rfl rfl ?_
    refine Ops.gn rfl rfl rfl rfl rfl ?_
    refine Ops.gn rfl rfl rfl rfl rfl ?_
    refine Ops.u (Dtu.pickT (lk rfl) (lk rfl)) rfl ?_
    refine Ops.u (Dtu.asg (lk rfl)) rfl ?_
    refine Ops.nil ?_
    refine Then.next ?_
    refine Body.condT (lk rfl) ?_
    refine Body.seq ?_
    refine Body.region ?_
    refine Ops.u (Dtu.asg (lk rfl)) rfl ?_
    refine Ops.nil ?_
    refine Then.next ?_
    refine Body.ret ?_
    refine Blk.ret ?_
    refine Then.ret ?_
    (first | exact ⟨.inr rfl, _, pk [] rfl, by rw [View.ok_no (by rw [View.fits_w]; omega)]; rfl, rfl⟩ | exact ⟨.inr rfl, _, pk [] rfl, by rw [View.ok_yes (by rw [View.fits_w]; omega)]; rfl, rfl⟩)
  · refine Ops.gu rfl rfl rfl (Dtu.fld fa60_0 (lk rfl)) rfl ?_
    refine Ops.gd rfl rfl rfl (Det.ld Try.isAgg3 (lk rfl) (Rd.ow 0 rfl rfl)) rfl ?_
    refine Ops.gu rfl rfl rfl (Dtu.gtr (lk rfl) (lk rfl)) rfl ?_
    refine Ops.u (Dtu.pickF (lk rfl) (lk rfl)) rfl ?_
    refine Ops.u (Dtu.mv (lk rfl)) rfl ?_
    refine Ops.decP 12 rfl (fun c12 => ?_) (fun c12 => ?_)
    · refine Ops.gn rfl rfl rfl rfl rfl ?_
      refine Ops.gn rfl rfl rfl rfl rfl ?_
      refine Ops.gn rfl rfl rfl rfl rfl ?_
      refine Ops.u (Dtu.pickT (lk rfl) (lk rfl)) rfl ?_
      refine Ops.u (Dtu.mv (lk rfl)) rfl ?_
      refine Ops.gn rfl rfl rfl rfl rfl ?_
      refine Ops.gn rfl rfl rfl rfl rfl ?_
      refine Ops.gn rfl rfl rfl rfl rfl ?_
      refine Ops.u (Dtu.pickT (lk rfl) (lk rfl)) rfl ?_
      refine Ops.u (Dtu.asg (lk rfl)) rfl ?_
      refine Ops.nil ?_
      refine Then.next ?_
      refine Body.condT (lk rfl) ?_
      refine Body.seq ?_
      refine Body.region ?_
      refine Ops.u (Dtu.asg (lk rfl)) rfl ?_
      refine Ops.nil ?_
      refine Then.next ?_
      refine Body.ret ?_
      refine Blk.ret ?_
      refine Then.ret ?_
      (first | exact ⟨.inr rfl, _, pk [] rfl, by rw [View.ok_no (by rw [View.fits_w]; omega)]; rfl, rfl⟩ | exact ⟨.inr rfl, _, pk [] rfl, by rw [View.ok_yes (by rw [View.fits_w]; omega)]; rfl, rfl⟩)
    · refine Ops.gu rfl rfl rfl (Dtu.fld fa60_1 (lk rfl)) rfl ?_
      refine Ops.gd rfl rfl rfl (Det.ld Try.isAgg3 (lk rfl) (Rd.ow 0 rfl rfl)) rfl ?_
      refine Ops.gu rfl rfl rfl (Dtu.lss (lk rfl) (lk rfl)) rfl ?_
      refine Ops.u (Dtu.pickF (lk rfl) (lk rfl)) rfl ?_
      refine Ops.u (Dtu.mv (lk rfl)) rfl ?_
      refine Ops.decP 17 rfl (fun c17 => ?_) (fun c17 => ?_)
      · refine Ops.gn rfl rfl rfl rfl rfl ?_
        refine Ops.gn rfl rfl rfl rfl rfl ?_
        refine Ops.gn rfl rfl rfl rfl rfl ?_
        refine Ops.u (Dtu.pickT (lk rfl) (lk rfl)) rfl ?_
        refine Ops.u (Dtu.asg (lk rfl)) rfl ?_
        refine Ops.nil ?_
        refine Then.next ?_
        refine Body.condT (lk rfl) ?_
        refine Body.seq ?_
        refine Body.region ?_
        refine Ops.u (Dtu.asg (lk rfl)) rfl ?_
        refine Ops.nil ?_
        refine Then.next ?_
        refine Body.ret ?_
        refine Blk.ret ?_
        refine Then.ret ?_
        (first | exact ⟨.inr rfl, _, pk [] rfl, by rw [View.ok_no (by rw [View.fits_w]; omega)]; rfl, rfl⟩ | exact ⟨.inr rfl, _, pk [] rfl, by rw [View.ok_yes (by rw [View.fits_w]; omega)]; rfl, rfl⟩)
      · refine Ops.gu rfl rfl rfl (Dtu.fld fa60_1 (lk rfl)) rfl ?_
        refine Ops.gd rfl rfl rfl (Det.ld Try.isAgg3 (lk rfl) (Rd.ow 0 rfl rfl)) rfl ?_
        refine Ops.gu rfl rfl rfl (Dtu.gtr (lk rfl) (lk rfl)) rfl ?_
        refine Ops.u (Dtu.pickF (lk rfl) (lk rfl)) rfl ?_
        refine Ops.u (Dtu.asg (lk rfl)) rfl ?_
        refine Ops.nil ?_
        refine Then.next ?_
        refine Body.condP (lk rfl) (fun c3 => ?_) (fun c3 => ?_)
        · refine Body.seq ?_
          refine Body.region ?_
          refine Ops.u (Dtu.asg (lk rfl)) rfl ?_
          refine Ops.nil ?_
          refine Then.next ?_
          refine Body.ret ?_
          refine Blk.ret ?_
          refine Then.ret ?_
          (first | exact ⟨.inr rfl, _, pk [] rfl, by rw [View.ok_no (by rw [View.fits_w]; omega)]; rfl, rfl⟩ | exact ⟨.inr rfl, _, pk [] rfl, by rw [View.ok_yes (by rw [View.fits_w]; omega)]; rfl, rfl⟩)
        · refine Body.seq ?_
          refine Body.region ?_
          refine Ops.u (Dtu.fld fa60_3 (lk rfl)) rfl ?_
          refine Ops.d (Det.ld Try.isAgg3 (lk rfl) (Rd.ow 0 rfl rfl)) rfl ?_
          refine Ops.u (Dtu.lss (lk rfl) (lk rfl)) rfl ?_
          refine Ops.u (Dtu.mv (lk rfl)) rfl ?_
          refine Ops.decP 26 rfl (fun c26 => ?_) (fun c26 => ?_)
          · refine Ops.gn rfl rfl rfl rfl rfl ?_
            refine Ops.gn rfl rfl rfl rfl rfl ?_
            refine Ops.gn rfl rfl rfl rfl rfl ?_
            refine Ops.gn rfl rfl rfl rfl rfl ?_
            refine Ops.gn rfl rfl rfl rfl rfl ?_
            refine Ops.u (Dtu.pickT (lk rfl) (lk rfl)) rfl ?_
            refine Ops.u (Dtu.mv (lk rfl)) rfl ?_
            refine Ops.gn rfl rfl rfl rfl rfl ?_
            refine Ops.gn rfl rfl rfl rfl rfl ?_
            refine Ops.gn rfl rfl rfl rfl rfl ?_
            refine Ops.u (Dtu.pickT (lk rfl) (lk rfl)) rfl ?_
            refine Ops.u (Dtu.mv (lk rfl)) rfl ?_
            refine Ops.gn rfl rfl rfl rfl rfl ?_
            refine Ops.gn rfl rfl rfl rfl rfl ?_
            refine Ops.gn rfl rfl rfl rfl rfl ?_
            refine Ops.gn rfl rfl rfl rfl rfl ?_
            refine Ops.gn rfl rfl rfl rfl rfl ?_
            refine Ops.u (Dtu.pickT (lk rfl) (lk rfl)) rfl ?_
            refine Ops.u (Dtu.mv (lk rfl)) rfl ?_
            refine Ops.gn rfl rfl rfl rfl rfl ?_
            refine Ops.gn rfl rfl rfl rfl rfl ?_
            refine Ops.gn rfl rfl rfl rfl rfl ?_
            refine Ops.gn rfl rfl rfl rfl rfl ?_
            refine Ops.gn rfl rfl rfl rfl rfl ?_
            refine Ops.gn rfl rfl rfl rfl rfl ?_
            refine Ops.gn rfl rfl rfl rfl rfl ?_
            refine Ops.gn rfl rfl rfl rfl rfl ?_
            refine Ops.gn rfl rfl rfl rfl rfl ?_
            refine Ops.u (Dtu.pickT (lk rfl) (lk rfl)) rfl ?_
            refine Ops.u (Dtu.asg (lk rfl)) rfl ?_
            refine Ops.nil ?_
            refine Then.next ?_
            refine Body.condT (lk rfl) ?_
            refine Body.seq ?_
            refine Body.region ?_
            refine Ops.u (Dtu.asg (lk rfl)) rfl ?_
            refine Ops.nil ?_
            refine Then.next ?_
            refine Body.ret ?_
            refine Blk.ret ?_
            refine Then.ret ?_
            (first | exact ⟨.inr rfl, _, pk [] rfl, by rw [View.ok_no (by rw [View.fits_w]; omega)]; rfl, rfl⟩ | exact ⟨.inr rfl, _, pk [] rfl, by rw [View.ok_yes (by rw [View.fits_w]; omega)]; rfl, rfl⟩)
          · refine Ops.gu rfl rfl rfl (Dtu.fld fa60_3 (lk rfl)) rfl ?_
            refine Ops.gd rfl rfl rfl (Det.ld Try.isAgg3 (lk rfl) (Rd.ow 0 rfl rfl)) rfl ?_
            refine Ops.gu rfl rfl rfl (Dtu.fld fa60_0 (lk rfl)) rfl ?_
            refine Ops.gd rfl rfl rfl (Det.ld Try.isAgg3 (lk rfl) (Rd.ow 0 rfl rfl)) rfl ?_
            refine Ops.gu rfl rfl rfl (Dtu.geq (lk rfl) (lk rfl)) rfl ?_
            refine Ops.u (Dtu.pickF (lk rfl) (lk rfl)) rfl ?_
            refine Ops.u (Dtu.mv (lk rfl)) rfl ?_
            refine Ops.decP 33 rfl (fun c33 => ?_) (fun c33 => ?_)
            · refine Ops.gn rfl rfl rfl rfl rfl ?_
              refine Ops.gn rfl rfl rfl rfl rfl ?_
              refine Ops.gn rfl rfl rfl rfl rfl ?_
              refine Ops.u (Dtu.pickT (lk rfl) (lk rfl)) rfl ?_
              refine Ops.u (Dtu.mv (lk rfl)) rfl ?_
              refine Ops.gn rfl rfl rfl rfl rfl ?_
              refine Ops.gn rfl rfl rfl rfl rfl ?_
              refine Ops.gn rfl rfl rfl rfl rfl ?_
              refine Ops.gn rfl rfl rfl rfl rfl ?_
              refine Ops.gn rfl rfl rfl rfl rfl ?_
              refine Ops.u (Dtu.pickT (lk rfl) (lk rfl)) rfl ?_
              refine Ops.u (Dtu.mv (lk rfl)) rfl ?_
              refine Ops.gn rfl rfl rfl rfl rfl ?_
              refine Ops.gn rfl rfl rfl rfl rfl ?_
              refine Ops.gn rfl rfl rfl rfl rfl ?_
              refine Ops.gn rfl rfl rfl rfl rfl ?_
              refine Ops.gn rfl rfl rfl rfl rfl ?_
              refine Ops.gn rfl rfl rfl rfl rfl ?_
              refine Ops.gn rfl rfl rfl rfl rfl ?_
              refine Ops.gn rfl rfl rfl rfl rfl ?_
              refine Ops.gn rfl rfl rfl rfl rfl ?_
              refine Ops.u (Dtu.pickT (lk rfl) (lk rfl)) rfl ?_
              refine Ops.u (Dtu.asg (lk rfl)) rfl ?_
              refine Ops.nil ?_
              refine Then.next ?_
              refine Body.condT (lk rfl) ?_
              refine Body.seq ?_
              refine Body.region ?_
              refine Ops.u (Dtu.asg (lk rfl)) rfl ?_
              refine Ops.nil ?_
              refine Then.next ?_
              refine Body.ret ?_
              refine Blk.ret ?_
              refine Then.ret ?_
              (first | exact ⟨.inr rfl, _, pk [] rfl, by rw [View.ok_no (by rw [View.fits_w]; omega)]; rfl, rfl⟩ | exact ⟨.inr rfl, _, pk [] rfl, by rw [View.ok_yes (by rw [View.fits_w]; omega)]; rfl, rfl⟩)
            · refine Ops.gu rfl rfl rfl (Dtu.fld fa60_4 (lk rfl)) rfl ?_
              refine Ops.gd rfl rfl rfl (Det.ld Try.isAgg3 (lk rfl) (Rd.ow 0 rfl rfl)) rfl ?_
              refine Ops.gu rfl rfl rfl (Dtu.lss (lk rfl) (lk rfl)) rfl ?_
              refine Ops.u (Dtu.pickF (lk rfl) (lk rfl)) rfl ?_
              refine Ops.u (Dtu.mv (lk rfl)) rfl ?_
              refine Ops.decP 38 rfl (fun c38 => ?_) (fun c38 => ?_)
              · refine Ops.gn rfl rfl rfl rfl rfl ?_
                refine Ops.gn rfl rfl rfl rfl rfl ?_
                refine Ops.gn rfl rfl rfl rfl rfl ?_
                refine Ops.gn rfl rfl rfl rfl rfl ?_
                refine Ops.gn rfl rfl rfl rfl rfl ?_
                refine Ops.u (Dtu.pickT (lk rfl) (lk rfl)) rfl ?_
                refine Ops.u (Dtu.mv (lk rfl)) rfl ?_
                refine Ops.gn rfl rfl rfl rfl rfl ?_
                refine Ops.gn rfl rfl rfl rfl rfl ?_
                refine Ops.gn rfl rfl rfl rfl rfl ?_
                refine Ops.gn rfl rfl rfl rfl rfl ?_
                refine Ops.gn rfl rfl rfl rfl rfl ?_
                refine Ops.gn rfl rfl rfl rfl rfl ?_
                refine Ops.gn rfl rfl rfl rfl rfl ?_
                refine Ops.gn rfl rfl rfl rfl rfl ?_
                refine Ops.gn rfl rfl rfl rfl rfl ?_
                refine Ops.u (Dtu.pickT (lk rfl) (lk rfl)) rfl ?_
                refine Ops.u (Dtu.asg (lk rfl)) rfl ?_
                refine Ops.nil ?_
                refine Then.next ?_
                refine Body.condT (lk rfl) ?_
                refine Body.seq ?_
                refine Body.region ?_
                refine Ops.u (Dtu.asg (lk rfl)) rfl ?_
                refine Ops.nil ?_
                refine Then.next ?_
                refine Body.ret ?_
                refine Blk.ret ?_
                refine Then.ret ?_
                (first | exact ⟨.inr rfl, _, pk [] rfl, by rw [View.ok_no (by rw [View.fits_w]; omega)]; rfl, rfl⟩ | exact ⟨.inr rfl, _, pk [] rfl, by rw [View.ok_yes (by rw [View.fits_w]; omega)]; rfl, rfl⟩)
              · refine Ops.gu rfl rfl rfl (Dtu.fld fa60_4 (lk rfl)) rfl ?_
                refine Ops.gd rfl rfl rfl (Det.ld Try.isAgg3 (lk rfl) (Rd.ow 0 rfl rfl)) rfl ?_
                refine Ops.gu rfl rfl rfl (Dtu.fld fa60_1 (lk rfl)) rfl ?_
                refine Ops.gd rfl rfl rfl (Det.ld Try.isAgg3 (lk rfl) (Rd.ow 0 rfl rfl)) rfl ?_
                refine Ops.gu rfl rfl rfl (Dtu.geq (lk rfl) (lk rfl)) rfl ?_
                refine Ops.u (Dtu.pickF (lk rfl) (lk rfl)) rfl ?_
                refine Ops.u (Dtu.mv (lk rfl)) rfl ?_
                refine Ops.decP 45 rfl (fun c45 => ?_) (fun c45 => ?_)
                · refine Ops.gn rfl rfl rfl rfl rfl ?_
                  refine Ops.gn rfl rfl rfl rfl rfl ?_
                  refine Ops.gn rfl rfl rfl rfl rfl ?_
                  refine Ops.gn rfl rfl rfl rfl rfl ?_
                  refine Ops.gn rfl rfl rfl rfl rfl ?_
                  refine Ops.gn rfl rfl rfl rfl rfl ?_
                  refine Ops.gn rfl rfl rfl rfl rfl ?_
                  refine Ops.gn rfl rfl rfl rfl rfl ?_
                  refine Ops.gn rfl rfl rfl rfl rfl ?_
                  refine Ops.u (Dtu.pickT (lk rfl) (lk rfl)) rfl ?_
                  refine Ops.u (Dtu.asg (lk rfl)) rfl ?_
                  refine Ops.nil ?_
                  refine Then.next ?_
                  refine Body.condT (lk rfl) ?_
                  refine Body.seq ?_
                  refine Body.region ?_
                  refine Ops.u (Dtu.asg (lk rfl)) rfl ?_
                  refine Ops.nil ?_
                  refine Then.next ?_
                  refine Body.ret ?_
                  refine Blk.ret ?_
                  refine Then.ret ?_
                  (first | exact ⟨.inr rfl, _, pk [] rfl, by rw [View.ok_no (by rw [View.fits_w]; omega)]; rfl, rfl⟩ | exact ⟨.inr rfl, _, pk [] rfl, by rw [View.ok_yes (by rw [View.fits_w]; omega)]; rfl, rfl⟩)
                · refine Ops.gu rfl rfl rfl (Dtu.fld fa60_2 (lk rfl)) rfl ?_
                  refine Ops.gd rfl rfl rfl (Det.ld Try.isAgg58 (lk rfl) (Rd.ow 0 rfl rfl)) rfl ?_
                  refine Ops.gu rfl rfl rfl (Dtu.lenS Try.underlying58 (Sl.up h) (lk rfl)) rfl ?_
                  refine Ops.gu rfl rfl rfl (Dtu.fld fa60_0 (lk rfl)) rfl ?_
                  refine Ops.gd rfl rfl rfl (Det.ld Try.isAgg3 (lk rfl) (Rd.ow 0 rfl rfl)) rfl ?_
                  refine Ops.gu rfl rfl rfl (Dtu.fld fa60_1 (lk rfl)) rfl ?_
                  refine Ops.gd rfl rfl rfl (Det.ld Try.isAgg3 (lk rfl) (Rd.ow 0 rfl rfl)) rfl ?_
                  refine Ops.gu rfl rfl rfl (Dtu.mul (lk rfl) (lk rfl) rfl) rfl ?_
                  refine Ops.gu rfl rfl rfl (Dtu.neq (lk rfl) (lk rfl)) rfl ?_
                  refine Ops.u (Dtu.pickF (lk rfl) (lk rfl)) rfl ?_
                  refine Ops.u (Dtu.asg (lk rfl)) rfl ?_
                  refine Ops.nil ?_
                  refine Then.next ?_
                  refine Body.condP (lk rfl) (fun c22 => ?_) (fun c22 => ?_)
                  · refine Body.seq ?_
                    refine Body.region ?_
                    refine Ops.u (Dtu.asg (lk rfl)) rfl ?_
                    refine Ops.nil ?_
                    refine Then.next ?_
                    refine Body.ret ?_
                    refine Blk.ret ?_
                    refine Then.ret ?_
                    (first | exact ⟨.inr rfl, _, pk [] rfl, by rw [View.ok_no (by rw [View.fits_w]; omega)]; rfl, rfl⟩ | exact ⟨.inr rfl, _, pk [] rfl, by rw [View.ok_yes (by rw [View.fits_w]; omega)]; rfl, rfl⟩)
                  · refine Body.skip ?_
                    refine Blk.norm ?_
                    refine Then.next ?_
                    refine Body.seq ?_
                    refine Body.region ?_
                    refine Ops.u (Dtu.fld fa60_2 (lk rfl)) rfl ?_
                    refine Ops.d (Det.ld Try.isAgg58 (lk rfl) (Rd.ow 0 rfl rfl)) rfl ?_
                    refine Ops.s (Stp.call rfl Try.call79 (lks rfl) (fun E' le hat => containsC_ok E' _ _ (fun c => !c.ok) _ Try.call80 (fun E c => right1_ok E c) (Sl.mono (by assumption) le)) ?_) rfl
                    rintro _ _ ⟨rfl, rfl⟩
                    refine Ops.u (Dtu.not (lk rfl)) rfl ?_
                    refine Ops.u (Dtu.asg (lk rfl)) rfl ?_
                    refine Ops.nil ?_
                    refine Then.next ?_
                    refine Body.ret ?_
                    (first | exact ⟨.inr rfl, _, pk [] rfl, by rw [View.ok_no (by rw [View.fits_w]; omega)]; rfl, rfl⟩ | exact ⟨.inr rfl, _, pk [] rfl, by rw [View.ok_yes (by rw [View.fits_w]; omega)]; rfl, rfl⟩)
end Go.Proofs.Ytagcpamchgpgiaa
end
section
/- A cell's and a style's bytes. -/
namespace Go.Proofs.Ytagcpamchgpgiaa
set_option maxRecDepth 100000
set_option linter.unusedVariables false
set_option linter.unusedSimpArgs false
open Go.Sx

theorem sizeS_pos {v : Int} (h : v < 4611686018427387904) : 1 ≤ sizeS v := by
  unfold sizeS classS; (repeat' split) <;> simp_all <;> omega
theorem put_fine (E : Env) (v : Int) (h0 : 0 ≤ v) (h1 : v < 4611686018427387904) : Does Try.prog 72 #[.int .u64 v] E [] fun r H' =>
    ∃ s, (1 ≤ sizeS v ∧ sizeS v ≤ 8) ∧ r = .tuple #[s, .int .i64 0] ∧ H' = [osl 5 1 s (sizeS v) ((putL v).map (.int .u8))] := by
  have hz := sizeS_pos h1
  have hz2 := sizeS_le v
  refine (put_ok E v h0).mono ?_
  rintro r H' (⟨h, _⟩ | ⟨_, s, h2, h3⟩)
  · omega
  · exact ⟨s, ⟨hz, hz2⟩, h2, h3⟩
theorem isCol_bound {c : Int} (h : isCol c = true) : 0 ≤ c ∧ c < 50331648 := by simp [isCol] at h; omega
theorem isPt_bound {c : Int} (h : isPt c = true) : 0 ≤ c ∧ c ≤ 1114111 := by simp [isPt] at h; omega
def Cell.styleB (c : Cell) : List Int := [c.fl] ++ (putL c.fg ++ putL c.bg)
def Cell.bytes (c : Cell) : List Int := c.styleB ++ putL c.pt
def Cell.styleN (c : Cell) : Nat := 1 + sizeS c.fg + sizeS c.bg
def Cell.size (c : Cell) : Nat := c.styleN + sizeS c.pt
def Cell.sn (c : Cell) : Nat → Nat
  | 0 => 1
  | 1 => 1 + sizeS c.fg
  | _ => 1 + sizeS c.fg + sizeS c.bg
def Cell.sb (c : Cell) : Nat → List Int
  | 0 => [c.fl]
  | 1 => [c.fl] ++ putL c.fg
  | _ => [c.fl] ++ putL c.fg ++ putL c.bg
theorem styleWrite_ok (E : Env) (c : Cell) (h : c.okStyle = true) : Does Try.prog 112 #[.agg c.style.toArray] E [] fun r H' => ∃ s, (3 ≤ c.styleN ∧ c.styleN ≤ 17) ∧ r = .tuple #[s, .int .i64 0] ∧ H' = [osl 5 1 s c.styleN (c.styleB.map (.int .u8))] := by
  have hf : isCol c.fg = true ∧ isCol c.bg = true := by simpa [Cell.okStyle, okSty] using h
  have b1 := isCol_bound hf.1
  have b2 := isCol_bound hf.2
  have z1 := sizeS_le c.fg
  have z2 := sizeS_le c.bg
  have z3 := sizeS_pos (v := c.fg) (by omega)
  have z4 := sizeS_pos (v := c.bg) (by omega)
  refine Does.go (args := [.agg c.style.toArray]) _ _ Try.func112 rfl Try.ntmps112 rfl rfl ?_
  refine Body.seq ?_
  refine Body.region ?_
  refine Ops.s (Stp.box (lk rfl) rfl (fun b1 => ?_)) rfl
  refine Ops.u (Dtu.asg (lk rfl)) rfl ?_
  refine Ops.u (Dtu.asg (lk rfl)) rfl ?_
  refine Ops.nil ?_
  refine Then.next ?_
  refine Body.seq ?_
  refine Body.seq ?_
  refine Body.region ?_
  refine Ops.d (Det.lda Try.isAgg125 Try.sizeOf125 (lk rfl) (Rds.ow (m := 3) 0 rfl rfl) rfl) rfl ?_
  refine Ops.s (Stp.call rfl Try.call104 (lks rfl) (fun E' le hat => styleRight_ok E' _ _ _) ?_) rfl
  rintro _ _ ⟨rfl, rfl⟩
  refine Ops.u (Dtu.not (lk rfl)) rfl ?_
  refine Ops.nil ?_
  refine Then.next ?_
  refine Body.cond (lk rfl) (fun hn => absurd hn (by first | (rw [h]; decide) | simp [h])) (fun _ => ?_)
  refine Body.skip ?_
  refine Then.next ?_
  refine Body.seq ?_
  refine Body.region ?_
  refine Ops.u (Dtu.fld fa125_0 (lk rfl)) rfl ?_
  refine Ops.d (Det.ld Try.isAgg5 (lk rfl) (Rd.ow 0 rfl rfl)) rfl ?_
  refine Ops.s (Stp.buildSliceO Try.underlying23 ty5 (by decide) (by decide) (lkp rfl) rfl rfl rfl (by decide) (fun v14 => ?_)) rfl
  refine Ops.u (Dtu.asg (lk rfl)) rfl ?_
  refine Ops.nil ?_
  refine Then.next ?_
  refine Body.seq ?_
  refine Body.seq ?_
  refine Body.region ?_
  refine Ops.u (Dtu.fld fa125_1 (lk rfl)) rfl ?_
  refine Ops.d (Det.ld Try.isAgg123 (lk rfl) (Rd.ow 1 rfl rfl)) rfl ?_
  refine Ops.u (Dtu.fld fa125_2 (lk rfl)) rfl ?_
  refine Ops.d (Det.ld Try.isAgg123 (lk rfl) (Rd.ow 1 rfl rfl)) rfl ?_
  refine Ops.u (Dtu.buildArr ty191 Try.underlying191 Try.sizeOf123 (lkp rfl) rfl rfl) rfl ?_
  refine Ops.u (Dtu.mv (lk rfl)) rfl ?_
  refine Ops.nil ?_
  refine Then.next ?_
  refine Body.block ?_
  refine Body.loopF (γ := Nat × Value) rfl (fun g => [(20, .int .i64 g.1), (4, g.2)]) (fun g => [osl 5 1 g.2 (c.sn g.1) ((c.sb g.1).map (.int .u8)), own b1 c.style 125]) (fun g => g.1 ≤ 2) (fun g => 2 - g.1) (0, v14) (by simp) ⟨rfl, rfl, trivial⟩ rfl ?_
  rintro ⟨i, o⟩ u hi
  match i, hi with
  | 0, _ =>
    dsimp only
    rw [show c.sn 0 = 1 from rfl, show c.sb 0 = [c.fl] from rfl]
    refine Body.seq ?_
    refine Body.region ?_
    refine Ops.u (Dtu.lss (lk rfl) (lk rfl)) rfl ?_
    refine Ops.nil ?_
    refine Then.next ?_
    refine Body.seq ?_
    refine Body.condP (lk rfl) (fun _ => ?_) (fun hn => absurd (by first | omega | assumption | decide) hn)
    refine Body.skip ?_
    refine Then.next ?_
    refine Body.seq ?_
    refine Body.block ?_
    refine Body.seq ?_
    refine Body.region ?_
    refine Ops.u (Dtu.ixv (i := 0) Try.underlying191 Try.sizeOf123 Try.isAgg123 (lk rfl) (lk rfl) (by omega) (by omega) rfl) rfl ?_
    refine Ops.u (Dtu.asg (lk rfl)) rfl ?_
    refine Ops.nil ?_
    refine Then.next ?_
    refine Body.seq ?_
    refine Body.region ?_
    refine Ops.u (Dtu.mv (lk rfl)) rfl ?_
    refine Ops.u (Dtu.cvt Try.underlying123 Try.underlying22 (lk rfl) (wu64 (by omega) (by omega))) rfl ?_
    refine Ops.s (Stp.call rfl Try.call72 (lks rfl) (fun E' le hat => put_fine E' _ (by omega) (by omega)) ?_) rfl
    rintro _ _ ⟨s26, hz26, rfl, rfl⟩
    refine Ops.u (Dtu.mv (lk rfl)) rfl ?_
    refine Ops.u (Dtu.ext (lk rfl) rfl) rfl ?_
    refine Ops.u (Dtu.ext (lk rfl) rfl) rfl ?_
    refine Ops.u (Dtu.asg (lk rfl)) rfl ?_
    refine Ops.u (Dtu.asg (lk rfl)) rfl ?_
    refine Ops.nil ?_
    refine Then.next ?_
    refine Body.seq ?_
    refine Body.seq ?_
    refine Body.region ?_
    refine Ops.u (Dtu.mv (lk rfl)) rfl ?_
    refine Ops.u (Dtu.neq (lk rfl) (lk rfl)) rfl ?_
    refine Ops.nil ?_
    refine Then.next ?_
    refine Body.condP (lk rfl) (fun hy => absurd hy (by first | omega | assumption | decide)) (fun _ => ?_)
    refine Body.skip ?_
    refine Then.next ?_
    refine Body.region ?_
    refine Ops.u (Dtu.mv (lk rfl)) rfl ?_
    refine Ops.u (Dtu.mv (lk rfl)) rfl ?_
    refine Ops.s (Stp.append 1 Try.underlying23 ty5 rfl rfl (lk rfl) (lk rfl) (Sl.osl 0 rfl) (by first | rfl | exact all_map (fun _ => rfl) _ | exact all_flat (fun _ => rfl) _) (by omega) (by omega) (fun v34 => ?_)) rfl
    refine Ops.u (Dtu.asg (lk rfl)) rfl ?_
    refine Ops.nil ?_
    refine Blk.norm ?_
    refine Then.next ?_
    refine Body.region ?_
    refine Ops.u (Dtu.add (lk rfl) (lk rfl) (w64 (by omega) (by omega))) rfl ?_
    refine Ops.u (Dtu.mv (lk rfl)) rfl ?_
    refine Ops.nil ?_
    exact Round.goK [1, 1] (1, v34) rfl rfl rfl ⟨rfl, rfl, trivial⟩ rfl (by simp [Cell.sn, Cell.sb]) (by simp) (by simp)
  | 1, _ =>
    dsimp only
    rw [show c.sn 1 = 1 + sizeS c.fg from rfl, show c.sb 1 = [c.fl] ++ putL c.fg from rfl]
    refine Body.seq ?_
    refine Body.region ?_
    refine Ops.u (Dtu.lss (lk rfl) (lk rfl)) rfl ?_
    refine Ops.nil ?_
    refine Then.next ?_
    refine Body.seq ?_
    refine Body.condP (lk rfl) (fun _ => ?_) (fun hn => absurd (by first | omega | assumption | decide) hn)
    refine Body.skip ?_
    refine Then.next ?_
    refine Body.seq ?_
    refine Body.block ?_
    refine Body.seq ?_
    refine Body.region ?_
    refine Ops.u (Dtu.ixv (i := 1) Try.underlying191 Try.sizeOf123 Try.isAgg123 (lk rfl) (lk rfl) (by omega) (by omega) rfl) rfl ?_
    refine Ops.u (Dtu.asg (lk rfl)) rfl ?_
    refine Ops.nil ?_
    refine Then.next ?_
    refine Body.seq ?_
    refine Body.region ?_
    refine Ops.u (Dtu.mv (lk rfl)) rfl ?_
    refine Ops.u (Dtu.cvt Try.underlying123 Try.underlying22 (lk rfl) (wu64 (by omega) (by omega))) rfl ?_
    refine Ops.s (Stp.call rfl Try.call72 (lks rfl) (fun E' le hat => put_fine E' _ (by omega) (by omega)) ?_) rfl
    rintro _ _ ⟨s26, hz26, rfl, rfl⟩
    refine Ops.u (Dtu.mv (lk rfl)) rfl ?_
    refine Ops.u (Dtu.ext (lk rfl) rfl) rfl ?_
    refine Ops.u (Dtu.ext (lk rfl) rfl) rfl ?_
    refine Ops.u (Dtu.asg (lk rfl)) rfl ?_
    refine Ops.u (Dtu.asg (lk rfl)) rfl ?_
    refine Ops.nil ?_
    refine Then.next ?_
    refine Body.seq ?_
    refine Body.seq ?_
    refine Body.region ?_
    refine Ops.u (Dtu.mv (lk rfl)) rfl ?_
    refine Ops.u (Dtu.neq (lk rfl) (lk rfl)) rfl ?_
    refine Ops.nil ?_
    refine Then.next ?_
    refine Body.condP (lk rfl) (fun hy => absurd hy (by first | omega | assumption | decide)) (fun _ => ?_)
    refine Body.skip ?_
    refine Then.next ?_
    refine Body.region ?_
    refine Ops.u (Dtu.mv (lk rfl)) rfl ?_
    refine Ops.u (Dtu.mv (lk rfl)) rfl ?_
    refine Ops.s (Stp.append 1 Try.underlying23 ty5 rfl rfl (lk rfl) (lk rfl) (Sl.osl 0 rfl) (by first | rfl | exact all_map (fun _ => rfl) _ | exact all_flat (fun _ => rfl) _) (by omega) (by omega) (fun v34 => ?_)) rfl
    refine Ops.u (Dtu.asg (lk rfl)) rfl ?_
    refine Ops.nil ?_
    refine Blk.norm ?_
    refine Then.next ?_
    refine Body.region ?_
    refine Ops.u (Dtu.add (lk rfl) (lk rfl) (w64 (by omega) (by omega))) rfl ?_
    refine Ops.u (Dtu.mv (lk rfl)) rfl ?_
    refine Ops.nil ?_
    exact Round.goK [1, 1] (2, v34) rfl rfl rfl ⟨rfl, rfl, trivial⟩ rfl (by simp [Cell.sn, Cell.sb]) (by simp) (by simp)
  | 2, _ =>
    dsimp only
    rw [show c.sn 2 = 1 + sizeS c.fg + sizeS c.bg from rfl, show c.sb 2 = [c.fl] ++ putL c.fg ++ putL c.bg from rfl]
    refine Body.seq ?_
    refine Body.region ?_
    refine Ops.u (Dtu.lss (lk rfl) (lk rfl)) rfl ?_
    refine Ops.nil ?_
    refine Then.next ?_
    refine Body.seq ?_
    refine Body.condP (lk rfl) (fun hy => absurd hy (by first | omega | assumption | decide)) (fun _ => ?_)
    refine Body.exit ?_
    refine Then.exit ?_
    refine Round.exit ?_
    refine Blk.here ?_
    refine Then.next ?_
    refine Body.seq ?_
    refine Body.region ?_
    refine Ops.u (Dtu.mv (lk rfl)) rfl ?_
    refine Ops.u (Dtu.asg (lk rfl)) rfl ?_
    refine Ops.u (Dtu.asg (lk rfl)) rfl ?_
    refine Ops.nil ?_
    refine Then.next ?_
    refine Body.ret ?_
    exact ⟨.inr rfl, _, pk [0] rfl, o, by unfold Cell.styleN; omega, rfl, by simp [Cell.styleB, Cell.styleN]⟩
theorem putCell_ok (E : Env) (c : Cell) (h : c.ok = true) : Does Try.prog 96 #[.agg c.enc.toArray] E [] fun r H' => ∃ s, (4 ≤ c.size ∧ c.size ≤ 25) ∧ r = .tuple #[s, .int .i64 0] ∧ H' = [osl 5 1 s c.size (c.bytes.map (.int .u8))] := by
  have hf : isPt c.pt = true ∧ c.okStyle = true := by simpa [Cell.ok, okCell] using h
  have b1 := isPt_bound hf.1
  have hs := hf.2
  have z1 := sizeS_le c.pt
  have z3 := sizeS_pos (v := c.pt) (by omega)
  refine Does.go (args := [.agg c.enc.toArray]) _ _ Try.func96 rfl Try.ntmps96 rfl rfl ?_
  refine Body.seq ?_
  refine Body.region ?_
  refine Ops.s (Stp.box (lk rfl) rfl (fun b1 => ?_)) rfl
  refine Ops.u (Dtu.asg (lk rfl)) rfl ?_
  refine Ops.u (Dtu.asg (lk rfl)) rfl ?_
  refine Ops.nil ?_
  refine Then.next ?_
  refine Body.seq ?_
  refine Body.seq ?_
  refine Body.region ?_
  refine Ops.d (Det.lda Try.isAgg127 Try.sizeOf127 (lk rfl) (Rds.ow (m := 4) 0 rfl rfl) rfl) rfl ?_
  refine Ops.s (Stp.call rfl Try.call81 (lks rfl) (fun E' le hat => isCell_ok E' _ _ _ _) ?_) rfl
  rintro _ _ ⟨rfl, rfl⟩
  refine Ops.u (Dtu.not (lk rfl)) rfl ?_
  refine Ops.nil ?_
  refine Then.next ?_
  refine Body.cond (lk rfl) (fun hn => absurd hn (by first | (rw [h]; decide) | simp [h])) (fun _ => ?_)
  refine Body.skip ?_
  refine Then.next ?_
  refine Body.seq ?_
  refine Body.region ?_
  refine Ops.u (Dtu.fld fa127_1 (lk rfl)) rfl ?_
  refine Ops.d (Det.lda Try.isAgg125 Try.sizeOf125 (lk rfl) (Rds.ow (m := 3) 0 rfl rfl) rfl) rfl ?_
  refine Ops.s (Stp.call rfl Try.call112 (lks rfl) (fun E' le hat => styleWrite_ok E' _ (by assumption)) ?_) rfl
  rintro _ _ ⟨s13, hz13, rfl, rfl⟩
  refine Ops.u (Dtu.mv (lk rfl)) rfl ?_
  refine Ops.u (Dtu.ext (lk rfl) rfl) rfl ?_
  refine Ops.u (Dtu.ext (lk rfl) rfl) rfl ?_
  refine Ops.u (Dtu.asg (lk rfl)) rfl ?_
  refine Ops.u (Dtu.asg (lk rfl)) rfl ?_
  refine Ops.nil ?_
  refine Then.next ?_
  refine Body.seq ?_
  refine Body.seq ?_
  refine Body.region ?_
  refine Ops.u (Dtu.mv (lk rfl)) rfl ?_
  refine Ops.u (Dtu.neq (lk rfl) (lk rfl)) rfl ?_
  refine Ops.nil ?_
  refine Then.next ?_
  refine Body.condP (lk rfl) (fun hy => absurd hy (by first | omega | assumption | decide)) (fun _ => ?_)
  refine Body.skip ?_
  refine Then.next ?_
  refine Body.seq ?_
  refine Body.region ?_
  refine Ops.u (Dtu.fld fa127_0 (lk rfl)) rfl ?_
  refine Ops.d (Det.ld Try.isAgg21 (lk rfl) (Rd.ow 1 rfl rfl)) rfl ?_
  refine Ops.u (Dtu.cvt Try.underlying21 Try.underlying22 (lk rfl) (wu64 (by omega) (by omega))) rfl ?_
  refine Ops.s (Stp.call rfl Try.call72 (lks rfl) (fun E' le hat => put_fine E' _ (by omega) (by omega)) ?_) rfl
  rintro _ _ ⟨s23, hz23, rfl, rfl⟩
  refine Ops.u (Dtu.mv (lk rfl)) rfl ?_
  refine Ops.u (Dtu.ext (lk rfl) rfl) rfl ?_
  refine Ops.u (Dtu.ext (lk rfl) rfl) rfl ?_
  refine Ops.u (Dtu.asg (lk rfl)) rfl ?_
  refine Ops.u (Dtu.asg (lk rfl)) rfl ?_
  refine Ops.nil ?_
  refine Then.next ?_
  refine Body.seq ?_
  refine Body.seq ?_
  refine Body.region ?_
  refine Ops.u (Dtu.mv (lk rfl)) rfl ?_
  refine Ops.u (Dtu.neq (lk rfl) (lk rfl)) rfl ?_
  refine Ops.nil ?_
  refine Then.next ?_
  refine Body.condP (lk rfl) (fun hy => absurd hy (by first | omega | assumption | decide)) (fun _ => ?_)
  refine Body.skip ?_
  refine Then.next ?_
  refine Body.seq ?_
  refine Body.region ?_
  refine Ops.u (Dtu.mv (lk rfl)) rfl ?_
  refine Ops.u (Dtu.mv (lk rfl)) rfl ?_
  refine Ops.s (Stp.append 1 Try.underlying23 ty5 rfl rfl (lk rfl) (lk rfl) (Sl.osl 0 rfl) (by first | rfl | exact all_map (fun _ => rfl) _ | exact all_flat (fun _ => rfl) _) (by omega) (by omega) (fun v31 => ?_)) rfl
  refine Ops.u (Dtu.asg (lk rfl)) rfl ?_
  refine Ops.u (Dtu.asg (lk rfl)) rfl ?_
  refine Ops.nil ?_
  refine Then.next ?_
  refine Body.ret ?_
  exact ⟨.inr rfl, _, pk [1] rfl, v31, by unfold Cell.size; omega, rfl, by simp [Cell.bytes, Cell.size]⟩
end Go.Proofs.Ytagcpamchgpgiaa
end
section
/- Views and cells: which are the same. -/
namespace Go.Proofs.Ytagcpamchgpgiaa
set_option maxRecDepth 100000
set_option linter.unusedVariables false
set_option linter.unusedSimpArgs false
open Go.Sx

theorem eq127 (a b : Cell) : EqAgg Try.prog 127 a.enc b.enc (decide (a = b)) := by
  have h : EqAgg Try.prog 127 a.enc b.enc ((a.pt == b.pt) && (((a.fl == b.fl) && ((a.fg == b.fg) && ((a.bg == b.bg) && true))) && true)) :=
    EqAgg.mk fun k => EqD.struct Try.underlying127 (by kernel_rfl) (FE.cons rfl (part_v Try.isAgg21 rfl) (part_v Try.isAgg21 rfl) (EqD.int Try.underlying21)
      (FE.cons rfl (part_a Try.isAgg125 Try.sizeOf125 rfl) (part_a Try.isAgg125 Try.sizeOf125 rfl)
        (EqD.struct Try.underlying125 (by kernel_rfl) (FE.cons rfl (part_v Try.isAgg5 rfl) (part_v Try.isAgg5 rfl) (EqD.int Try.underlying5)
          (FE.cons rfl (part_v Try.isAgg123 rfl) (part_v Try.isAgg123 rfl) (EqD.int Try.underlying123) (FE.cons rfl (part_v Try.isAgg123 rfl) (part_v Try.isAgg123 rfl) (EqD.int Try.underlying123) FE.nil)))) FE.nil))
  have e : ((a.pt == b.pt) && (((a.fl == b.fl) && ((a.fg == b.fg) && ((a.bg == b.bg) && true))) && true)) = decide (a = b) := by
    cases a; cases b
    rw [Bool.eq_iff_iff]
    simp
  rwa [e] at h
theorem eqGuard127 : Try.prog.eqGuardType Try.prog.depth 127 = false := by kernel_rfl
theorem equalC_ok (E : Env) (s t : Value) (xs ys : List Cell) (hx : Sl E [] 4 s xs.length (xs.flatMap Cell.enc)) (hy : Sl E [] 4 t ys.length (ys.flatMap Cell.enc)) :
    Does Try.prog 69 #[s, t] E [] fun r H' => r = .bool (decide (xs = ys)) ∧ H' = [] := by
  refine Does.pure hx.len fun hlen => ?_
  refine Does.pure hy.len fun hlen2 => ?_
  refine Does.go (args := [s, t]) _ _ Try.func69 rfl Try.ntmps69 rfl rfl ?_
  refine Body.seq ?_
  refine Body.region ?_
  refine Ops.u (Dtu.asg (lk rfl)) rfl ?_
  refine Ops.nil ?_
  refine Then.next ?_
  refine Body.seq ?_
  refine Body.seq ?_
  refine Body.region ?_
  refine Ops.u (Dtu.mv (lk rfl)) rfl ?_
  refine Ops.u (Dtu.lenS Try.underlying58 (Sl.up hx) (lk rfl)) rfl ?_
  refine Ops.u (Dtu.mv (lk rfl)) rfl ?_
  refine Ops.u (Dtu.lenS Try.underlying58 (Sl.up hy) (lk rfl)) rfl ?_
  refine Ops.u (Dtu.neq (lk rfl) (lk rfl)) rfl ?_
  refine Ops.nil ?_
  refine Then.next ?_
  refine Body.condP (lk rfl) (fun c10 => ?_) (fun c10 => ?_)
  · refine Body.seq ?_
    refine Body.region ?_
    refine Ops.u (Dtu.asg (lk rfl)) rfl ?_
    refine Ops.nil ?_
    refine Then.next ?_
    refine Body.ret ?_
    refine Then.ret ?_
    refine ⟨.inr rfl, _, pk [] rfl, bool_eq ?_, rfl⟩
    have : xs ≠ ys := fun e => c10 (by rw [e])
    simp [this]
  · refine Body.skip ?_
    refine Then.next ?_
    refine Body.seq ?_
    refine Body.seq ?_
    refine Body.region ?_
    refine Ops.u (Dtu.mv (lk rfl)) rfl ?_
    refine Ops.u (Dtu.lenS Try.underlying58 (Sl.up hx) (lk rfl)) rfl ?_
    refine Ops.u (Dtu.mv (lk rfl)) rfl ?_
    refine Ops.nil ?_
    refine Then.next ?_
    refine Body.block ?_
    have hl : xs.length = ys.length := by omega
    refine Body.loopF (γ := Nat) rfl (fun k => [(13, .int .i64 k)]) (fun _ => []) (fun k => k ≤ xs.length ∧ ∀ j, j < k → xs[j]! = ys[j]!) (fun k => xs.length - k) 0 ⟨by omega, fun j hj => by omega⟩ ⟨rfl, trivial⟩ rfl ?_
    rintro k u ⟨hk, hb⟩
    refine Body.seq ?_
    refine Body.region ?_
    refine Ops.u (Dtu.lss (lk rfl) (lk rfl)) rfl ?_
    refine Ops.nil ?_
    refine Then.next ?_
    refine Body.seq ?_
    refine Body.condP (lk rfl) (fun c14 => ?_) (fun c14 => ?_)
    · refine Body.skip ?_
      refine Then.next ?_
      refine Body.seq ?_
      refine Body.block ?_
      refine Body.seq ?_
      refine Body.region ?_
      refine Ops.u (Dtu.mv (lk rfl)) rfl ?_
      refine Ops.u (Dtu.asg (lk rfl)) rfl ?_
      refine Ops.nil ?_
      refine Then.next ?_
      refine Body.seq ?_
      refine Body.draw mixed ?_
      refine AB.u 0 rfl (by decide +kernel) (Dtu.mv (lk rfl)) rfl ?_
      refine AB.u 1 rfl (by decide +kernel) (Dtu.mv (lk rfl)) rfl ?_
      refine AB.u 2 rfl (by decide +kernel) (Dtu.ix (i := (k)) Try.underlying58 Try.sizeOf127 (Sl.up hx) (lk rfl) (lk rfl) (by omega) (by omega)) rfl ?_
      refine AB.d 3 rfl (by decide +kernel) rfl (Det.lda Try.isAgg127 Try.sizeOf127 (lk rfl) (Rds.sl (Sl.up hx) (gf (sz := 4) (fun _ => rfl) (by omega))) rfl) rfl ?_
      refine AB.u 4 rfl (by decide +kernel) (Dtu.mv (lk rfl)) rfl ?_
      refine AB.u 5 rfl (by decide +kernel) (Dtu.mv (lk rfl)) rfl ?_
      refine AB.u 6 rfl (by decide +kernel) (Dtu.ix (i := (k)) Try.underlying58 Try.sizeOf127 (Sl.up hy) (lk rfl) (lk rfl) (by omega) (by omega)) rfl ?_
      refine AB.d 7 rfl (by decide +kernel) rfl (Det.lda Try.isAgg127 Try.sizeOf127 (lk rfl) (Rds.sl (Sl.up hy) (gf (sz := 4) (fun _ => rfl) (by omega))) rfl) rfl ?_
      refine AB.u 8 rfl (by decide +kernel) (Dtu.neS eqGuard127 (eq127 _ _) (lk rfl) (lk rfl)) rfl ?_
      refine AB.done (by decide +kernel) ?_
      refine Then.next ?_
      refine Body.cond (lk rfl) (fun c24 => ?_) (fun c24 => ?_)
      · refine Body.seq ?_
        refine Body.region ?_
        refine Ops.u (Dtu.asg (lk rfl)) rfl ?_
        refine Ops.nil ?_
        refine Then.next ?_
        refine Body.ret ?_
        refine Blk.ret ?_
        refine Then.ret ?_
        refine Round.ret ?_
        refine Blk.ret ?_
        refine Then.ret ?_
        refine ⟨.inr rfl, _, pk [] rfl, bool_eq ?_, rfl⟩
        have : xs ≠ ys := fun e => by simp [e] at c24
        simp [this]
      · refine Body.skip ?_
        refine Blk.norm ?_
        refine Then.next ?_
        refine Body.region ?_
        refine Ops.u (Dtu.add (lk rfl) (lk rfl) (w64 (by omega) (by omega))) rfl ?_
        refine Ops.u (Dtu.mv (lk rfl)) rfl ?_
        refine Ops.nil ?_
        refine Round.goF (k + 1) rfl rfl rfl ⟨int_eq (by omega), trivial⟩ rfl ⟨by omega, fun j hj => ?_⟩ (by omega)
        by_cases e : j = k
        · subst e; simpa using c24
        · exact hb j (by omega)
    · refine Body.exit ?_
      refine Then.exit ?_
      refine Round.exit ?_
      refine Blk.here ?_
      refine Then.next ?_
      refine Body.seq ?_
      refine Body.region ?_
      refine Ops.u (Dtu.asg (lk rfl)) rfl ?_
      refine Ops.nil ?_
      refine Then.next ?_
      refine Body.ret ?_
      refine ⟨.inr rfl, _, pk [] rfl, bool_eq ?_, rfl⟩
      have : xs = ys := List.ext_getElem hl fun j h1 h2 => by
        have := hb j (by omega)
        rwa [getElem!_pos xs j h1, getElem!_pos ys j h2] at this
      simp [this]
theorem same_ok (E : Env) (a b : View) (s t : Value) (ha : a.has E [] s) (hb : b.has E [] t) : Does Try.prog 53 #[a.val s, b.val t] E [] fun r H' => r = .bool (decide (a = b)) ∧ H' = [] := by
  unfold View.has at ha hb
  refine Does.pure ha.isSl fun hs => ?_
  refine Does.pure hb.isSl fun ht => ?_
  refine Does.go (args := [a.val s, b.val t]) _ _ Try.func53 rfl Try.ntmps53 rfl rfl ?_
  obtain ⟨r1, c1, l1, o1, q1, v1⟩ := a
  obtain ⟨r2, c2, l2, o2, q2, v2⟩ := b
  refine Body.seq ?_
  refine Body.region ?_
  refine Ops.s (Stp.box (lk rfl) rfl (fun b2 => ?_)) rfl
  refine Ops.s (Stp.box (lk rfl) rfl (fun b3 => ?_)) rfl
  refine Ops.u (Dtu.asg (lk rfl)) rfl ?_
  refine Ops.nil ?_
  refine Then.next ?_
  refine Body.seq ?_
  refine Body.region ?_
  refine Ops.u (Dtu.fld fa60_0 (lk rfl)) rfl ?_
  refine Ops.d (Det.ld Try.isAgg3 (lk rfl) (Rd.ow 1 rfl rfl)) rfl ?_
  refine Ops.u (Dtu.fld fa60_0 (lk rfl)) rfl ?_
  refine Ops.d (Det.ld Try.isAgg3 (lk rfl) (Rd.ow 0 rfl rfl)) rfl ?_
  refine Ops.u (Dtu.eql (lk rfl) (lk rfl)) rfl ?_
  refine Ops.u (Dtu.mv (lk rfl)) rfl ?_
  refine Ops.decP 10 rfl (fun c10 => ?_) (fun c10 => ?_)
  · refine Ops.gu rfl rfl rfl (Dtu.fld fa60_1 (lk rfl)) rfl ?_
    refine Ops.gd rfl rfl rfl (Det.ld Try.isAgg3 (lk rfl) (Rd.ow 1 rfl rfl)) rfl ?_
    refine Ops.gu rfl rfl rfl (Dtu.fld fa60_1 (lk rfl)) rfl ?_
    refine Ops.gd rfl rfl rfl (Det.ld Try.isAgg3 (lk rfl) (Rd.ow 0 rfl rfl)) rfl ?_
    refine Ops.gu rfl rfl rfl (Dtu.eql (lk rfl) (lk rfl)) rfl ?_
    refine Ops.u (Dtu.pickT (lk rfl) (lk rfl)) rfl ?_
    refine Ops.u (Dtu.mv (lk rfl)) rfl ?_
    refine Ops.decP 17 rfl (fun c17 => ?_) (fun c17 => ?_)
    · refine Ops.gu rfl rfl rfl (Dtu.fld fa60_3 (lk rfl)) rfl ?_
      refine Ops.gd rfl rfl rfl (Det.ld Try.isAgg3 (lk rfl) (Rd.ow 1 rfl rfl)) rfl ?_
      refine Ops.gu rfl rfl rfl (Dtu.fld fa60_3 (lk rfl)) rfl ?_
      refine Ops.gd rfl rfl rfl (Det.ld Try.isAgg3 (lk rfl) (Rd.ow 0 rfl rfl)) rfl ?_
      refine Ops.gu rfl rfl rfl (Dtu.eql (lk rfl) (lk rfl)) rfl ?_
      refine Ops.u (Dtu.pickT (lk rfl) (lk rfl)) rfl ?_
      refine Ops.u (Dtu.mv (lk rfl)) rfl ?_
      refine Ops.decP 24 rfl (fun c24 => ?_) (fun c24 => ?_)
      · refine Ops.gu rfl rfl rfl (Dtu.fld fa60_4 (lk rfl)) rfl ?_
        refine Ops.gd rfl rfl rfl (Det.ld Try.isAgg3 (lk rfl) (Rd.ow 1 rfl rfl)) rfl ?_
        refine Ops.gu rfl rfl rfl (Dtu.fld fa60_4 (lk rfl)) rfl ?_
        refine Ops.gd rfl rfl rfl (Det.ld Try.isAgg3 (lk rfl) (Rd.ow 0 rfl rfl)) rfl ?_
        refine Ops.gu rfl rfl rfl (Dtu.eql (lk rfl) (lk rfl)) rfl ?_
        refine Ops.u (Dtu.pickT (lk rfl) (lk rfl)) rfl ?_
        refine Ops.u (Dtu.mv (lk rfl)) rfl ?_
        refine Ops.decP 31 rfl (fun c31 => ?_) (fun c31 => ?_)
        · refine Ops.gu rfl rfl rfl (Dtu.fld fa60_5 (lk rfl)) rfl ?_
          refine Ops.gd rfl rfl rfl (Det.ld Try.isAgg4 (lk rfl) (Rd.ow 1 rfl rfl)) rfl ?_
          refine Ops.gu rfl rfl rfl (Dtu.fld fa60_5 (lk rfl)) rfl ?_
          refine Ops.gd rfl rfl rfl (Det.ld Try.isAgg4 (lk rfl) (Rd.ow 0 rfl rfl)) rfl ?_
          refine Ops.gu rfl rfl rfl (Dtu.eqB Try.underlying4 (lk rfl) (lk rfl)) rfl ?_
          refine Ops.u (Dtu.pickT (lk rfl) (lk rfl)) rfl ?_
          refine Ops.u (Dtu.mv (lk rfl)) rfl ?_
          refine Ops.decP 38 rfl (fun c38 => ?_) (fun c38 => ?_)
          · refine Ops.gu rfl rfl rfl (Dtu.fld fa60_2 (lk rfl)) rfl ?_
            refine Ops.gd rfl rfl rfl (Det.ld Try.isAgg58 (lk rfl) (Rd.ow 1 rfl rfl)) rfl ?_
            refine Ops.gu rfl rfl rfl (Dtu.fld fa60_2 (lk rfl)) rfl ?_
            refine Ops.gd rfl rfl rfl (Det.ld Try.isAgg58 (lk rfl) (Rd.ow 0 rfl rfl)) rfl ?_
            refine Ops.gs rfl rfl rfl (Stp.call rfl Try.call69 (lks rfl) (fun E' le hat => equalC_ok E' _ _ _ _ (Sl.mono (by assumption) le) (Sl.mono (by assumption) le)) ?_) rfl
            rintro _ _ ⟨rfl, rfl⟩
            refine Ops.u (Dtu.pickT (lk rfl) (lk rfl)) rfl ?_
            refine Ops.u (Dtu.asg (lk rfl)) rfl ?_
            refine Ops.nil ?_
            refine Then.next ?_
            refine Body.ret ?_
            (refine ⟨.inr rfl, _, pk [] rfl, bool_eq ?_, rfl⟩; simp_all)
          · refine Ops.gn rfl rfl rfl rfl rfl ?_
            refine Ops.gn rfl rfl rfl rfl rfl ?_
            refine Ops.gn rfl rfl rfl rfl rfl ?_
            refine Ops.gn rfl rfl rfl rfl rfl ?_
            refine Ops.gn rfl rfl rfl rfl rfl ?_
            refine Ops.u (Dtu.pickF (lk rfl) (lk rfl)) rfl ?_
            refine Ops.u (Dtu.asg (lk rfl)) rfl ?_
            refine Ops.nil ?_
            refine Then.next ?_
            refine Body.ret ?_
            (refine ⟨.inr rfl, _, pk [] rfl, bool_eq ?_, rfl⟩; simp_all)
        · refine Ops.gn rfl rfl rfl rfl rfl ?_
          refine Ops.gn rfl rfl rfl rfl rfl ?_
          refine Ops.gn rfl rfl rfl rfl rfl ?_
          refine Ops.gn rfl rfl rfl rfl rfl ?_
          refine Ops.gn rfl rfl rfl rfl rfl ?_
          refine Ops.u (Dtu.pickF (lk rfl) (lk rfl)) rfl ?_
          refine Ops.u (Dtu.mv (lk rfl)) rfl ?_
          refine Ops.gn rfl rfl rfl rfl rfl ?_
          refine Ops.gn rfl rfl rfl rfl rfl ?_
          refine Ops.gn rfl rfl rfl rfl rfl ?_
          refine Ops.gn rfl rfl rfl rfl rfl ?_
          refine Ops.gn rfl rfl rfl rfl rfl ?_
          refine Ops.u (Dtu.pickF (lk rfl) (lk rfl)) rfl ?_
          refine Ops.u (Dtu.asg (lk rfl)) rfl ?_
          refine Ops.nil ?_
          refine Then.next ?_
          refine Body.ret ?_
          (refine ⟨.inr rfl, _, pk [] rfl, bool_eq ?_, rfl⟩; simp_all)
      · refine Ops.gn rfl rfl rfl rfl rfl ?_
        refine Ops.gn rfl rfl rfl rfl rfl ?_
        refine Ops.gn rfl rfl rfl rfl rfl ?_
        refine Ops.gn rfl rfl rfl rfl rfl ?_
        refine Ops.gn rfl rfl rfl rfl rfl ?_
        refine Ops.u (Dtu.pickF (lk rfl) (lk rfl)) rfl ?_
        refine Ops.u (Dtu.mv (lk rfl)) rfl ?_
        refine Ops.gn rfl rfl rfl rfl rfl ?_
        refine Ops.gn rfl rfl rfl rfl rfl ?_
        refine Ops.gn rfl rfl rfl rfl rfl ?_
        refine Ops.gn rfl rfl rfl rfl rfl ?_
        refine Ops.gn rfl rfl rfl rfl rfl ?_
        refine Ops.u (Dtu.pickF (lk rfl) (lk rfl)) rfl ?_
        refine Ops.u (Dtu.mv (lk rfl)) rfl ?_
        refine Ops.gn rfl rfl rfl rfl rfl ?_
        refine Ops.gn rfl rfl rfl rfl rfl ?_
        refine Ops.gn rfl rfl rfl rfl rfl ?_
        refine Ops.gn rfl rfl rfl rfl rfl ?_
        refine Ops.gn rfl rfl rfl rfl rfl ?_
        refine Ops.u (Dtu.pickF (lk rfl) (lk rfl)) rfl ?_
        refine Ops.u (Dtu.asg (lk rfl)) rfl ?_
        refine Ops.nil ?_
        refine Then.next ?_
        refine Body.ret ?_
        (refine ⟨.inr rfl, _, pk [] rfl, bool_eq ?_, rfl⟩; simp_all)
    · refine Ops.gn rfl rfl rfl rfl rfl ?_
      refine Ops.gn rfl rfl rfl rfl rfl ?_
      refine Ops.gn rfl rfl rfl rfl rfl ?_
      refine Ops.gn rfl rfl rfl rfl rfl ?_
      refine Ops.gn rfl rfl rfl rfl rfl ?_
      refine Ops.u (Dtu.pickF (lk rfl) (lk rfl)) rfl ?_
      refine Ops.u (Dtu.mv (lk rfl)) rfl ?_
      refine Ops.gn rfl rfl rfl rfl rfl ?_
      refine Ops.gn rfl rfl rfl rfl rfl ?_
      refine Ops.gn rfl rfl rfl rfl rfl ?_
      refine Ops.gn rfl rfl rfl rfl rfl ?_
      refine Ops.gn rfl rfl rfl rfl rfl ?_
      refine Ops.u (Dtu.pickF (lk rfl) (lk rfl)) rfl ?_
      refine Ops.u (Dtu.mv (lk rfl)) rfl ?_
      refine Ops.gn rfl rfl rfl rfl rfl ?_
      refine Ops.gn rfl rfl rfl rfl rfl ?_
      refine Ops.gn rfl rfl rfl rfl rfl ?_
      refine Ops.gn rfl rfl rfl rfl rfl ?_
      refine Ops.gn rfl rfl rfl rfl rfl ?_
      refine Ops.u (Dtu.pickF (lk rfl) (lk rfl)) rfl ?_
      refine Ops.u (Dtu.mv (lk rfl)) rfl ?_
      refine Ops.gn rfl rfl rfl rfl rfl ?_
      refine Ops.gn rfl rfl rfl rfl rfl ?_
      refine Ops.gn rfl rfl rfl rfl rfl ?_
      refine Ops.gn rfl rfl rfl rfl rfl ?_
      refine Ops.gn rfl rfl rfl rfl rfl ?_
      refine Ops.u (Dtu.pickF (lk rfl) (lk rfl)) rfl ?_
      refine Ops.u (Dtu.asg (lk rfl)) rfl ?_
      refine Ops.nil ?_
      refine Then.next ?_
      refine Body.ret ?_
      (refine ⟨.inr rfl, _, pk [] rfl, bool_eq ?_, rfl⟩; simp_all)
  · refine Ops.gn rfl rfl rfl rfl rfl ?_
    refine Ops.gn rfl rfl rfl rfl rfl ?_
    refine Ops.gn rfl rfl rfl rfl rfl ?_
    refine Ops.gn rfl rfl rfl rfl rfl ?_
    refine Ops.gn rfl rfl rfl rfl rfl ?_
    refine Ops.u (Dtu.pickF (lk rfl) (lk rfl)) rfl ?_
    refine Ops.u (Dtu.mv (lk rfl)) rfl ?_
    refine Ops.gn rfl rfl rfl rfl rfl ?_
    refine Ops.gn rfl rfl rfl rfl rfl ?_
    refine Ops.gn rfl rfl rfl rfl rfl ?_
    refine Ops.gn rfl rfl rfl rfl rfl ?_
    refine Ops.gn rfl rfl rfl rfl rfl ?_
    refine Ops.u (Dtu.pickF (lk rfl) (lk rfl)) rfl ?_
    refine Ops.u (Dtu.mv (lk rfl)) rfl ?_
    refine Ops.gn rfl rfl rfl rfl rfl ?_
    refine Ops.gn rfl rfl rfl rfl rfl ?_
    refine Ops.gn rfl rfl rfl rfl rfl ?_
    refine Ops.gn rfl rfl rfl rfl rfl ?_
    refine Ops.gn rfl rfl rfl rfl rfl ?_
    refine Ops.u (Dtu.pickF (lk rfl) (lk rfl)) rfl ?_
    refine Ops.u (Dtu.mv (lk rfl)) rfl ?_
    refine Ops.gn rfl rfl rfl rfl rfl ?_
    refine Ops.gn rfl rfl rfl rfl rfl ?_
    refine Ops.gn rfl rfl rfl rfl rfl ?_
    refine Ops.gn rfl rfl rfl rfl rfl ?_
    refine Ops.gn rfl rfl rfl rfl rfl ?_
    refine Ops.u (Dtu.pickF (lk rfl) (lk rfl)) rfl ?_
    refine Ops.u (Dtu.mv (lk rfl)) rfl ?_
    refine Ops.gn rfl rfl rfl rfl rfl ?_
    refine Ops.gn rfl rfl rfl rfl rfl ?_
    refine Ops.gn rfl rfl rfl rfl rfl ?_
    refine Ops.gn rfl rfl rfl rfl rfl ?_
    refine Ops.gn rfl rfl rfl rfl rfl ?_
    refine Ops.u (Dtu.pickF (lk rfl) (lk rfl)) rfl ?_
    refine Ops.u (Dtu.asg (lk rfl)) rfl ?_
    refine Ops.nil ?_
    refine Then.next ?_
    refine Body.ret ?_
    (refine ⟨.inr rfl, _, pk [] rfl, bool_eq ?_, rfl⟩; simp_all)
theorem blank_ok (E : Env) : Does Try.prog 67 #[] E [] fun r H' => r = .agg (Cell.enc ⟨32, 0, 0, 0⟩).toArray ∧ H' = [] := by
  refine Does.go (args := []) _ _ Try.func67 rfl Try.ntmps67 rfl rfl ?_
  refine Body.seq ?_
  refine Body.region ?_
  refine Ops.s (Stp.alloc ty127 (fun b0 => ?_)) rfl
  refine Ops.nil ?_
  refine Then.next ?_
  refine Body.seq ?_
  refine Body.region ?_
  refine Ops.u (Dtu.build ty127 pl127 (lkp rfl) rfl rfl) rfl ?_
  refine Ops.e (Stp.store 0 Try.sizeOf127 (lk rfl) (lk rfl) rfl rfl rfl rfl rfl rfl rfl ?_)
  refine Ops.nil ?_
  refine Then.next ?_
  refine Body.ret ?_
  exact ⟨.inr rfl, _, Loads.agg Try.isAgg127 Try.sizeOf127 (Rds.ow (m := 4) 0 rfl rfl) rfl, _, pk [] rfl, rfl, rfl⟩
def View.first : View := ⟨1, 1, [⟨32, 0, 0, 0⟩], 0, 0, true⟩
theorem first_ok (E : Env) : Does Try.prog 50 #[] E [] fun r H' => ∃ s, r = View.first.val s ∧ H' = [osl 127 4 s 1 (View.first.cells.flatMap Cell.enc)] := by
  refine Does.go (args := []) _ _ Try.func50 rfl Try.ntmps50 rfl rfl ?_
  refine Body.seq ?_
  refine Body.region ?_
  refine Ops.s (Stp.alloc ty60 (fun b0 => ?_)) rfl
  refine Ops.nil ?_
  refine Then.next ?_
  refine Body.seq ?_
  refine Body.region ?_
  refine Ops.s (Stp.call rfl Try.call67 (lks rfl) (fun E' le hat => blank_ok E') ?_) rfl
  rintro _ _ ⟨rfl, rfl⟩
  refine Ops.s (Stp.buildSliceO Try.underlying58 ty127 (by decide) (by decide) (lkp rfl) rfl rfl rfl (by decide) (fun v2 => ?_)) rfl
  refine Ops.pure (Sl.isSl (Sl.osl 0 rfl)) fun h2 => ?_
  obtain ⟨a2, m2, c2, rfl⟩ := h2
  refine Ops.u (Dtu.build ty60 pl60 (lkp rfl) rfl rfl) rfl ?_
  refine Ops.e (Stp.store 1 Try.sizeOf60 (lk rfl) (lk rfl) rfl rfl rfl rfl rfl rfl rfl ?_)
  refine Ops.nil ?_
  refine Then.next ?_
  refine Body.ret ?_
  exact ⟨.inr rfl, _, Loads.agg Try.isAgg60 Try.sizeOf60 (Rds.ow (m := 6) 1 rfl rfl) rfl, _, pk [0] rfl, _, rfl, rfl⟩
def View.none : View := ⟨0, 0, [], 0, 0, false⟩
end Go.Proofs.Ytagcpamchgpgiaa
end
section
/- A view's bytes. -/
namespace Go.Proofs.Ytagcpamchgpgiaa
set_option maxRecDepth 100000
set_option linter.unusedVariables false
set_option linter.unusedSimpArgs false
open Go.Sx

/-- the bytes of n cells c and of what comes behind them -/
def runsFrom (c : Cell) (n : Nat) : List Cell → List Int
  | [] => putL n ++ c.bytes
  | d :: t => if d = c then runsFrom c (n + 1) t else putL n ++ c.bytes ++ runsFrom d 1 t
def runsB : List Cell → List Int
  | [] => []
  | c :: t => runsFrom c 1 t
def View.head (v : View) : List Int := [v.rows, v.cols, v.row, v.col, if v.vis then 1 else 0]
def View.bytes (v : View) : List Int := v.head ++ runsB v.cells
theorem Cell.bytes_len (c : Cell) : c.bytes.length = c.size := by
  simp [Cell.bytes, Cell.styleB, Cell.size, Cell.styleN, putL_len]; omega
end Go.Proofs.Ytagcpamchgpgiaa
end
section
/- What bytes are read as: styles and cells. -/
namespace Go.Proofs.Ytagcpamchgpgiaa
set_option maxRecDepth 100000
set_option linter.unusedVariables false
set_option linter.unusedSimpArgs false
open Go.Sx

theorem foldB_bound (l : List Int) (hl : ∀ i, i < l.length → 0 ≤ l[i]! ∧ l[i]! < 256) : ∀ v k, 0 ≤ v → v < 64 * 256 ^ k → 0 ≤ foldB v l ∧ foldB v l < 64 * 256 ^ (k + l.length) := by
  induction l with
  | nil => intro v k h0 h1; exact ⟨h0, h1⟩
  | cons c t ih =>
    intro v k h0 h1
    have hc := hl 0 (by simp)
    simp at hc
    have := ih (fun i hi => by have := hl (i + 1) (by simp; omega); simpa using this) (v * 256 + c) (k + 1) (by omega) (by rw [Int.pow_succ]; omega)
    have e : foldB v (c :: t) = foldB (v * 256 + c) t := rfl
    rw [e, List.length_cons, show k + (t.length + 1) = k + 1 + t.length by omega]
    exact this
theorem manyS_le {c : Int} (h : 0 ≤ c ∧ c < 256) : manyS c ≤ 8 := by
  unfold manyS
  have : (c / 64).toNat ≤ 3 := by omega
  exact Nat.pow_le_pow_right (n := 2) (j := 3) (by omega) this
theorem getS_bound (bs : List Int) (hb : Byt bs) (p : Int) : 0 ≤ (getS bs p).1 ∧ (getS bs p).1 < 4611686018427387904 := by
  unfold getS
  split
  · simp
  · split
    · simp
    · split
      · simp
      · rename_i h1 h2 h3
        have hq : p.toNat < bs.length := by omega
        have hc := hb p.toNat hq
        have hm := manyS_le hc
        generalize hL : (bs.drop (p.toNat + 1)).take (manyS bs[p.toNat]! - 1) = L
        have hlen : L.length ≤ 7 := by rw [← hL, List.length_take]; omega
        have hbL : ∀ i, i < L.length → 0 ≤ L[i]! ∧ L[i]! < 256 := by
          intro i hi
          subst hL
          have hi' : i < manyS bs[p.toNat]! - 1 ∧ p.toNat + 1 + i < bs.length := by rw [List.length_take, List.length_drop] at hi; omega
          have := hb (p.toNat + 1 + i) hi'.2
          rw [getElem!_pos bs (p.toNat + 1 + i) hi'.2] at this
          rw [getElem!_pos ((bs.drop (p.toNat + 1)).take (manyS bs[p.toNat]! - 1)) i hi]
          simpa [List.getElem_take, List.getElem_drop] using this
        obtain ⟨b1, b2⟩ := foldB_bound L hbL (bs[p.toNat]! % 64) 0 (by omega) (by omega)
        have b3 : (64 : Int) * 256 ^ (0 + L.length) ≤ 4611686018427387904 := by
          have : L.length = 0 ∨ L.length = 1 ∨ L.length = 2 ∨ L.length = 3 ∨ L.length = 4 ∨ L.length = 5 ∨ L.length = 6 ∨ L.length = 7 := by omega
          rcases this with e | e | e | e | e | e | e | e <;> rw [e] <;> decide
        dsimp only
        split
        · simp
        · exact ⟨b1, by dsimp only; omega⟩
theorem getS_next (bs : List Int) (p : Int) : (getS bs p).2.2 = 0 → 0 ≤ p ∧ p < (getS bs p).2.1 ∧ (getS bs p).2.1 ≤ bs.length := by
  unfold getS
  split
  · intro h; simp at h
  · split
    · intro h; simp at h
    · split
      · intro h; simp at h
      · dsimp only
        split
        · intro h; simp at h
        · intro _
          dsimp only
          have : 1 ≤ manyS bs[p.toNat]! := Nat.one_le_two_pow
          omega
/-- a style, the place behind it, an error -/
def styleR (bs : List Int) (at_ : Int) : (Int × Int × Int) × Int × Int :=
  if at_ < 0 ∨ (bs.length : Int) < at_ then ((0, 0, 0), 0, 1)
  else if at_ = bs.length then ((0, 0, 0), 0, 10)
  else
    let g1 := getS bs (at_ + 1)
    if g1.2.2 ≠ 0 then ((0, 0, 0), 0, g1.2.2)
    else
      let g2 := getS bs g1.2.1
      if g2.2.2 ≠ 0 then ((0, 0, 0), 0, g2.2.2)
      else
        let fg := min g1.1 2147483648
        let bg := min g2.1 2147483648
        if isCol fg && isCol bg then ((bs[at_.toNat]!, fg, bg), g2.2.1, 0) else ((0, 0, 0), 0, 3)
def styV (s : Int × Int × Int) : Value := .agg #[.int .u8 s.1, .int .u32 s.2.1, .int .u32 s.2.2]
theorem styleRead_ok (E : Env) (b : Value) (bs : List Int) (p : Int) (h : Sl E [] 1 b bs.length (bs.map (.int .u8))) (hb : Byt bs) : Does Try.prog 118 #[b, .int .i64 p] E [] fun r H' =>
    r = .tuple #[styV (styleR bs p).1, .int .i64 (styleR bs p).2.1, .int .i64 (styleR bs p).2.2] ∧ H' = [] := by
  refine Does.pure h.len fun hlen => ?_
  refine Does.go (args := [b, .int .i64 p]) _ _ Try.func118 rfl Try.ntmps118 rfl rfl ?_
  have cl : ∀ q : Int × Int × Int, True := fun _ => trivial
  refine Body.seq ?_
  refine Body.region ?_
  refine Ops.s (Stp.alloc ty125 (fun b4 => ?_)) rfl
  refine Ops.u (Dtu.asg (lk rfl)) rfl ?_
  refine Ops.u (Dtu.asg (lk rfl)) rfl ?_
  refine Ops.nil ?_
  refine Then.next ?_
  refine Body.seq ?_
  refine Body.block ?_
  refine Body.seq ?_
  refine Body.region ?_
  refine Ops.u (Dtu.mv (lk rfl)) rfl ?_
  refine Ops.u (Dtu.lss (lk rfl) (lk rfl)) rfl ?_
  refine Ops.u (Dtu.mv (lk rfl)) rfl ?_
  refine Ops.decP 17 rfl (fun c17 => ?_) (fun c17 => ?_)
  · refine Ops.gn rfl rfl rfl rfl rfl ?_
    refine Ops.gn rfl rfl rfl rfl rfl ?_
    refine Ops.gn rfl rfl rfl rfl rfl ?_
    refine Ops.gn rfl rfl rfl rfl rfl ?_
    refine Ops.u (Dtu.pickT (lk rfl) (lk rfl)) rfl ?_
    refine Ops.u (Dtu.asg (lk rfl)) rfl ?_
    refine Ops.nil ?_
    refine Then.next ?_
    refine Body.condT (lk rfl) ?_
    refine Body.seq ?_
    refine Body.region ?_
    refine Ops.u (Dtu.build ty125 pl125 (lkp rfl) rfl rfl) rfl ?_
    refine Ops.e (Stp.store 0 Try.sizeOf125 (lk rfl) (lk rfl) rfl rfl rfl rfl rfl rfl rfl ?_)
    refine Ops.u (Dtu.asg (lk rfl)) rfl ?_
    refine Ops.u (Dtu.asg (lk rfl)) rfl ?_
    refine Ops.nil ?_
    refine Then.next ?_
    refine Body.ret ?_
    refine Blk.ret ?_
    refine Then.ret ?_
    refine ⟨.inr rfl, _, Loads.agg Try.isAgg125 Try.sizeOf125 (Rds.ow (m := 3) 0 rfl rfl) rfl, _, pk [] rfl, ?_, rfl⟩
    unfold styleR; rw [if_pos (.inl c17)]; rfl
  · refine Ops.gu rfl rfl rfl (Dtu.mv (lk rfl)) rfl ?_
    refine Ops.gu rfl rfl rfl (Dtu.mv (lk rfl)) rfl ?_
    refine Ops.gu rfl rfl rfl (Dtu.lenS Try.underlying23 (Sl.up h) (lk rfl)) rfl ?_
    refine Ops.gu rfl rfl rfl (Dtu.gtr (lk rfl) (lk rfl)) rfl ?_
    refine Ops.u (Dtu.pickF (lk rfl) (lk rfl)) rfl ?_
    refine Ops.u (Dtu.asg (lk rfl)) rfl ?_
    refine Ops.nil ?_
    refine Then.next ?_
    refine Body.condP (lk rfl) (fun c14 => ?_) (fun c14 => ?_)
    · refine Body.seq ?_
      refine Body.region ?_
      refine Ops.u (Dtu.build ty125 pl125 (lkp rfl) rfl rfl) rfl ?_
      refine Ops.e (Stp.store 0 Try.sizeOf125 (lk rfl) (lk rfl) rfl rfl rfl rfl rfl rfl rfl ?_)
      refine Ops.u (Dtu.asg (lk rfl)) rfl ?_
      refine Ops.u (Dtu.asg (lk rfl)) rfl ?_
      refine Ops.nil ?_
      refine Then.next ?_
      refine Body.ret ?_
      refine Blk.ret ?_
      refine Then.ret ?_
      refine ⟨.inr rfl, _, Loads.agg Try.isAgg125 Try.sizeOf125 (Rds.ow (m := 3) 0 rfl rfl) rfl, _, pk [] rfl, ?_, rfl⟩
      unfold styleR; rw [if_pos (.inr c14)]; rfl
    · refine Body.seq ?_
      refine Body.region ?_
      refine Ops.u (Dtu.mv (lk rfl)) rfl ?_
      refine Ops.u (Dtu.mv (lk rfl)) rfl ?_
      refine Ops.u (Dtu.lenS Try.underlying23 (Sl.up h) (lk rfl)) rfl ?_
      refine Ops.u (Dtu.eql (lk rfl) (lk rfl)) rfl ?_
      refine Ops.u (Dtu.asg (lk rfl)) rfl ?_
      refine Ops.nil ?_
      refine Then.next ?_
      refine Body.condP (lk rfl) (fun c24 => ?_) (fun c24 => ?_)
      · refine Body.seq ?_
        refine Body.region ?_
        refine Ops.u (Dtu.build ty125 pl125 (lkp rfl) rfl rfl) rfl ?_
        refine Ops.e (Stp.store 0 Try.sizeOf125 (lk rfl) (lk rfl) rfl rfl rfl rfl rfl rfl rfl ?_)
        refine Ops.u (Dtu.asg (lk rfl)) rfl ?_
        refine Ops.u (Dtu.asg (lk rfl)) rfl ?_
        refine Ops.nil ?_
        refine Then.next ?_
        refine Body.ret ?_
        refine Blk.ret ?_
        refine Then.ret ?_
        refine ⟨.inr rfl, _, Loads.agg Try.isAgg125 Try.sizeOf125 (Rds.ow (m := 3) 0 rfl rfl) rfl, _, pk [] rfl, ?_, rfl⟩
        unfold styleR; rw [if_neg (by omega), if_pos c24]; rfl
      · obtain ⟨q, rfl⟩ := Int.eq_ofNat_of_zero_le (show 0 ≤ p by omega)
        have hq : q < bs.length := by omega
        have a1 := getS_bound bs hb ((q : Int) + 1)
        have a2 := getS_bound bs hb (getS bs ((q : Int) + 1)).2.1
        have hst : styleR bs (q : Int) = (
            let g1 := getS bs ((q : Int) + 1)
            if g1.2.2 ≠ 0 then ((0, 0, 0), 0, g1.2.2)
            else
              let g2 := getS bs g1.2.1
              if g2.2.2 ≠ 0 then ((0, 0, 0), 0, g2.2.2)
              else
                let fg := min g1.1 2147483648
                let bg := min g2.1 2147483648
                if isCol fg && isCol bg then ((bs[q]!, fg, bg), g2.2.1, 0) else ((0, 0, 0), 0, 3)) := by
          unfold styleR
          rw [if_neg (by omega), if_neg (by omega)]
          simp only [Int.toNat_natCast]
        dsimp only at hst
        refine Body.skip ?_
        refine Blk.norm ?_
        refine Then.next ?_
        refine Body.seq ?_
        refine Body.region ?_
        refine Ops.s (Stp.alloc ty198 (fun b7 => ?_)) rfl
        refine Ops.nil ?_
        refine Then.next ?_
        refine Body.seq ?_
        refine Body.region ?_
        refine Ops.u (Dtu.mv (lk rfl)) rfl ?_
        refine Ops.u (Dtu.add (lk rfl) (lk rfl) (w64 (by omega) (by omega))) rfl ?_
        refine Ops.u (Dtu.asg (lk rfl)) rfl ?_
        refine Ops.nil ?_
        refine Then.next ?_
        refine Body.seq ?_
        refine Body.seq ?_
        refine Body.region ?_
        refine Ops.u (Dtu.mv (lk rfl)) rfl ?_
        refine Ops.nil ?_
        refine Then.next ?_
        refine Body.block ?_
        refine Body.loopF (γ := Nat × Int × Int × Int) rfl (fun g => [(32, .int .i64 g.1), (8, .int .i64 g.2.1)]) (fun g => [own b7 [.int .u64 g.2.2.1, .int .u64 g.2.2.2] 198, own b4 [.int .u8 0, .int .u32 0, .int .u32 0] 125])
          (fun g => (g = (0, (q : Int) + 1, 0, 0)) ∨ (g = (1, (getS bs ((q : Int) + 1)).2.1, (getS bs ((q : Int) + 1)).1, 0) ∧ (getS bs ((q : Int) + 1)).2.2 = 0) ∨ (g = (2, (getS bs (getS bs ((q : Int) + 1)).2.1).2.1, (getS bs ((q : Int) + 1)).1, (getS bs (getS bs ((q : Int) + 1)).2.1).1) ∧ (getS bs ((q : Int) + 1)).2.2 = 0 ∧ (getS bs (getS bs ((q : Int) + 1)).2.1).2.2 = 0)) (fun g => 2 - g.1) (0, (q : Int) + 1, 0, 0) (.inl rfl) ⟨rfl, rfl, trivial⟩ rfl ?_
        rintro g u (rfl | ⟨rfl, k1⟩ | ⟨rfl, k1, k2⟩)
        · dsimp only
          refine Body.seq ?_
          refine Body.region ?_
          refine Ops.u (Dtu.lss (lk rfl) (lk rfl)) rfl ?_
          refine Ops.nil ?_
          refine Then.next ?_
          refine Body.seq ?_
          refine Body.condP (lk rfl) (fun _ => ?_) (fun hn => absurd (by first | omega | assumption | decide) hn)
          refine Body.skip ?_
          refine Then.next ?_
          refine Body.seq ?_
          refine Body.block ?_
          refine Body.seq ?_
          refine Body.region ?_
          refine Ops.u (Dtu.mv (lk rfl)) rfl ?_
          refine Ops.u (Dtu.asg (lk rfl)) rfl ?_
          refine Ops.nil ?_
          refine Then.next ?_
          refine Body.seq ?_
          refine Body.region ?_
          refine Ops.u (Dtu.mv (lk rfl)) rfl ?_
          refine Ops.u (Dtu.mv (lk rfl)) rfl ?_
          refine Ops.s (Stp.call rfl Try.call77 (lks rfl) (fun E' le hat => get_ok E' _ _ _ (Sl.mono (by assumption) le) (by assumption)) ?_) rfl
          rintro _ _ ⟨rfl, rfl⟩
          refine Ops.u (Dtu.mv (lk rfl)) rfl ?_
          refine Ops.u (Dtu.ext (lk rfl) rfl) rfl ?_
          refine Ops.u (Dtu.ext (lk rfl) rfl) rfl ?_
          refine Ops.u (Dtu.ext (lk rfl) rfl) rfl ?_
          refine Ops.u (Dtu.asg (lk rfl)) rfl ?_
          refine Ops.u (Dtu.asg (lk rfl)) rfl ?_
          refine Ops.u (Dtu.asg (lk rfl)) rfl ?_
          refine Ops.nil ?_
          refine Then.next ?_
          refine Body.seq ?_
          refine Body.seq ?_
          refine Body.region ?_
          refine Ops.u (Dtu.mv (lk rfl)) rfl ?_
          refine Ops.u (Dtu.neq (lk rfl) (lk rfl)) rfl ?_
          refine Ops.nil ?_
          refine Then.next ?_
          refine Body.condP (lk rfl) (fun c43 => ?_) (fun c43 => ?_)
          · refine Body.seq ?_
            refine Body.region ?_
            refine Ops.u (Dtu.build ty125 pl125 (lkp rfl) rfl rfl) rfl ?_
            refine Ops.u (Dtu.mv (lk rfl)) rfl ?_
            refine Ops.e (Stp.store 1 Try.sizeOf125 (lk rfl) (lk rfl) rfl rfl rfl rfl rfl rfl rfl ?_)
            refine Ops.u (Dtu.asg (lk rfl)) rfl ?_
            refine Ops.u (Dtu.asg (lk rfl)) rfl ?_
            refine Ops.nil ?_
            refine Then.next ?_
            refine Body.ret ?_
            refine Then.ret ?_
            refine Blk.ret ?_
            refine Then.ret ?_
            refine Round.ret ?_
            refine Blk.ret ?_
            refine Then.ret ?_
            refine ⟨.inr rfl, _, Loads.agg Try.isAgg125 Try.sizeOf125 (Rds.ow (m := 3) 1 rfl rfl) rfl, _, pk [] rfl, ?_, rfl⟩
            rw [hst, if_pos c43]; rfl
          · refine Body.skip ?_
            refine Then.next ?_
            refine Body.region ?_
            refine Ops.u (Dtu.mv (lk rfl)) rfl ?_
            refine Ops.u (Dtu.mv (lk rfl)) rfl ?_
            refine Ops.u (Dtu.mv (lk rfl)) rfl ?_
            refine Ops.u (Dtu.ixa (i := 0) Try.underlying198 Try.sizeOf22 (lk rfl) (lk rfl) (by omega) (by omega)) rfl ?_
            refine Ops.e (Stp.store 0 Try.sizeOf22 (lk rfl) (lk rfl) rfl rfl rfl rfl rfl rfl rfl ?_)
            refine Ops.u (Dtu.asg (lk rfl)) rfl ?_
            refine Ops.nil ?_
            refine Blk.norm ?_
            refine Then.next ?_
            refine Body.region ?_
            refine Ops.u (Dtu.add (lk rfl) (lk rfl) (w64 (by omega) (by omega))) rfl ?_
            refine Ops.u (Dtu.mv (lk rfl)) rfl ?_
            refine Ops.nil ?_
            exact Round.goF (1, (getS bs ((q : Int) + 1)).2.1, (getS bs ((q : Int) + 1)).1, 0) rfl rfl rfl ⟨rfl, rfl, trivial⟩ rfl (.inr (.inl ⟨rfl, by omega⟩)) (by simp)
        · dsimp only
          refine Body.seq ?_
          refine Body.region ?_
          refine Ops.u (Dtu.lss (lk rfl) (lk rfl)) rfl ?_
          refine Ops.nil ?_
          refine Then.next ?_
          refine Body.seq ?_
          refine Body.condP (lk rfl) (fun _ => ?_) (fun hn => absurd (by first | omega | assumption | decide) hn)
          refine Body.skip ?_
          refine Then.next ?_
          refine Body.seq ?_
          refine Body.block ?_
          refine Body.seq ?_
          refine Body.region ?_
          refine Ops.u (Dtu.mv (lk rfl)) rfl ?_
          refine Ops.u (Dtu.asg (lk rfl)) rfl ?_
          refine Ops.nil ?_
          refine Then.next ?_
          refine Body.seq ?_
          refine Body.region ?_
          refine Ops.u (Dtu.mv (lk rfl)) rfl ?_
          refine Ops.u (Dtu.mv (lk rfl)) rfl ?_
          refine Ops.s (Stp.call rfl Try.call77 (lks rfl) (fun E' le hat => get_ok E' _ _ _ (Sl.mono (by assumption) le) (by assumption)) ?_) rfl
          rintro _ _ ⟨rfl, rfl⟩
          refine Ops.u (Dtu.mv (lk rfl)) rfl ?_
          refine Ops.u (Dtu.ext (lk rfl) rfl) rfl ?_
          refine Ops.u (Dtu.ext (lk rfl) rfl) rfl ?_
          refine Ops.u (Dtu.ext (lk rfl) rfl) rfl ?_
          refine Ops.u (Dtu.asg (lk rfl)) rfl ?_
          refine Ops.u (Dtu.asg (lk rfl)) rfl ?_
          refine Ops.u (Dtu.asg (lk rfl)) rfl ?_
          refine Ops.nil ?_
          refine Then.next ?_
          refine Body.seq ?_
          refine Body.seq ?_
          refine Body.region ?_
          refine Ops.u (Dtu.mv (lk rfl)) rfl ?_
          refine Ops.u (Dtu.neq (lk rfl) (lk rfl)) rfl ?_
          refine Ops.nil ?_
          refine Then.next ?_
          refine Body.condP (lk rfl) (fun c43 => ?_) (fun c43 => ?_)
          · refine Body.seq ?_
            refine Body.region ?_
            refine Ops.u (Dtu.build ty125 pl125 (lkp rfl) rfl rfl) rfl ?_
            refine Ops.u (Dtu.mv (lk rfl)) rfl ?_
            refine Ops.e (Stp.store 1 Try.sizeOf125 (lk rfl) (lk rfl) rfl rfl rfl rfl rfl rfl rfl ?_)
            refine Ops.u (Dtu.asg (lk rfl)) rfl ?_
            refine Ops.u (Dtu.asg (lk rfl)) rfl ?_
            refine Ops.nil ?_
            refine Then.next ?_
            refine Body.ret ?_
            refine Then.ret ?_
            refine Blk.ret ?_
            refine Then.ret ?_
            refine Round.ret ?_
            refine Blk.ret ?_
            refine Then.ret ?_
            refine ⟨.inr rfl, _, Loads.agg Try.isAgg125 Try.sizeOf125 (Rds.ow (m := 3) 1 rfl rfl) rfl, _, pk [] rfl, ?_, rfl⟩
            rw [hst, if_neg (by omega), if_pos c43]; rfl
          · refine Body.skip ?_
            refine Then.next ?_
            refine Body.region ?_
            refine Ops.u (Dtu.mv (lk rfl)) rfl ?_
            refine Ops.u (Dtu.mv (lk rfl)) rfl ?_
            refine Ops.u (Dtu.mv (lk rfl)) rfl ?_
            refine Ops.u (Dtu.ixa (i := 1) Try.underlying198 Try.sizeOf22 (lk rfl) (lk rfl) (by omega) (by omega)) rfl ?_
            refine Ops.e (Stp.store 0 Try.sizeOf22 (lk rfl) (lk rfl) rfl rfl rfl rfl rfl rfl rfl ?_)
            refine Ops.u (Dtu.asg (lk rfl)) rfl ?_
            refine Ops.nil ?_
            refine Blk.norm ?_
            refine Then.next ?_
            refine Body.region ?_
            refine Ops.u (Dtu.add (lk rfl) (lk rfl) (w64 (by omega) (by omega))) rfl ?_
            refine Ops.u (Dtu.mv (lk rfl)) rfl ?_
            refine Ops.nil ?_
            exact Round.goF (2, (getS bs (getS bs ((q : Int) + 1)).2.1).2.1, (getS bs ((q : Int) + 1)).1, (getS bs (getS bs ((q : Int) + 1)).2.1).1) rfl rfl rfl ⟨rfl, rfl, trivial⟩ rfl (.inr (.inr ⟨rfl, by omega, by omega⟩)) (by simp)
        · dsimp only
          refine Body.seq ?_
          refine Body.region ?_
          refine Ops.u (Dtu.lss (lk rfl) (lk rfl)) rfl ?_
          refine Ops.nil ?_
          refine Then.next ?_
          refine Body.seq ?_
          refine Body.condP (lk rfl) (fun hy => absurd hy (by first | omega | assumption | decide)) (fun _ => ?_)
          refine Body.exit ?_
          refine Then.exit ?_
          refine Round.exit ?_
          refine Blk.here ?_
          refine Then.next ?_
          refine Body.seq ?_
          refine Body.draw mixed ?_
          refine AB.u 0 rfl (by decide +kernel) (Dtu.mv (lk rfl)) rfl ?_
          refine AB.u 1 rfl (by decide +kernel) (Dtu.mv (lk rfl)) rfl ?_
          refine AB.u 2 rfl (by decide +kernel) (Dtu.ix (i := (q)) Try.underlying23 Try.sizeOf5 (Sl.up h) (lk rfl) (lk rfl) (by omega) (by omega)) rfl ?_
          refine AB.d 3 rfl (by decide +kernel) rfl (Det.ld Try.isAgg5 (lk rfl) (Rd.sl (Sl.up h) (gm (by omega)))) rfl ?_
          refine AB.u 4 rfl (by decide +kernel) (Dtu.ixa (i := 0) Try.underlying198 Try.sizeOf22 (lk rfl) (lk rfl) (by omega) (by omega)) rfl ?_
          refine AB.d 5 rfl (by decide +kernel) rfl (Det.ld Try.isAgg22 (lk rfl) (Rd.ow 0 rfl rfl)) rfl ?_
          refine AB.u 6 rfl (by decide +kernel) (Dtu.min (lk rfl) (lk rfl)) rfl ?_
          refine AB.u 7 rfl (by decide +kernel) (Dtu.cvt Try.underlying22 Try.underlying123 (lk rfl) (wu32 (by omega) (by omega))) rfl ?_
          refine AB.u 8 rfl (by decide +kernel) (Dtu.ixa (i := 1) Try.underlying198 Try.sizeOf22 (lk rfl) (lk rfl) (by omega) (by omega)) rfl ?_
          refine AB.d 9 rfl (by decide +kernel) rfl (Det.ld Try.isAgg22 (lk rfl) (Rd.ow 0 rfl rfl)) rfl ?_
          refine AB.u 10 rfl (by decide +kernel) (Dtu.min (lk rfl) (lk rfl)) rfl ?_
          refine AB.u 11 rfl (by decide +kernel) (Dtu.cvt Try.underlying22 Try.underlying123 (lk rfl) (wu32 (by omega) (by omega))) rfl ?_
          refine AB.u 12 rfl (by decide +kernel) (Dtu.build ty125 pl125 (lkp rfl) rfl rfl) rfl ?_
          refine AB.s 13 rfl (by decide +kernel) (by decide +kernel) (Stp.alloc ty125 (fun b13 => ?_)) rfl
          refine AB.e 14 rfl (by decide +kernel) (by decide +kernel) (Stp.store 0 Try.sizeOf125 (lk rfl) (lk rfl) rfl rfl rfl rfl rfl rfl rfl ?_)
          refine AB.done (by decide +kernel) ?_
          refine Then.next ?_
          refine Body.seq ?_
          refine Body.seq ?_
          refine Body.region ?_
          refine Ops.d (Det.lda Try.isAgg125 Try.sizeOf125 (lk rfl) (Rds.ow (m := 3) 0 rfl rfl) rfl) rfl ?_
          refine Ops.s (Stp.call rfl Try.call104 (lks rfl) (fun E' le hat => styleRight_ok E' _ _ _) ?_) rfl
          rintro _ _ ⟨rfl, rfl⟩
          refine Ops.u (Dtu.not (lk rfl)) rfl ?_
          refine Ops.nil ?_
          refine Then.next ?_
          refine Body.cond (lk rfl) (fun c66 => ?_) (fun c66 => ?_)
          · refine Body.seq ?_
            refine Body.region ?_
            refine Ops.u (Dtu.build ty125 pl125 (lkp rfl) rfl rfl) rfl ?_
            refine Ops.e (Stp.store 2 Try.sizeOf125 (lk rfl) (lk rfl) rfl rfl rfl rfl rfl rfl rfl ?_)
            refine Ops.u (Dtu.asg (lk rfl)) rfl ?_
            refine Ops.u (Dtu.asg (lk rfl)) rfl ?_
            refine Ops.nil ?_
            refine Then.next ?_
            refine Body.ret ?_
            refine Then.ret ?_
            refine ⟨.inr rfl, _, Loads.agg Try.isAgg125 Try.sizeOf125 (Rds.ow (m := 3) 2 rfl rfl) rfl, _, pk [] rfl, ?_, rfl⟩
            rw [hst, if_neg (by omega), if_neg (by omega), if_neg (fun hh => by have hh' : okSty (min (getS bs ((q : Int) + 1)).1 2147483648) (min (getS bs (getS bs ((q : Int) + 1)).2.1).1 2147483648) = true := hh; simp [hh'] at c66)]; rfl
          · refine Body.skip ?_
            refine Then.next ?_
            refine Body.seq ?_
            refine Body.region ?_
            refine Ops.d (Det.lda Try.isAgg125 Try.sizeOf125 (lk rfl) (Rds.ow (m := 3) 0 rfl rfl) rfl) rfl ?_
            refine Ops.u (Dtu.mv (lk rfl)) rfl ?_
            refine Ops.e (Stp.store 2 Try.sizeOf125 (lk rfl) (lk rfl) rfl rfl rfl rfl rfl rfl rfl ?_)
            refine Ops.u (Dtu.asg (lk rfl)) rfl ?_
            refine Ops.u (Dtu.asg (lk rfl)) rfl ?_
            refine Ops.nil ?_
            refine Then.next ?_
            refine Body.ret ?_
            refine ⟨.inr rfl, _, Loads.agg Try.isAgg125 Try.sizeOf125 (Rds.ow (m := 3) 2 rfl rfl) rfl, _, pk [] rfl, ?_, rfl⟩
            rw [hst, if_neg (by omega), if_neg (by omega), if_pos (by simpa [okSty] using c66)]; rfl
/-- a cell, the place behind it, an error -/
def cellR (bs : List Int) (at_ : Int) : Cell × Int × Int :=
  let s := styleR bs at_
  if s.2.2 ≠ 0 then (⟨0, 0, 0, 0⟩, 0, s.2.2)
  else
    let g := getS bs s.2.1
    if g.2.2 ≠ 0 then (⟨0, 0, 0, 0⟩, 0, g.2.2)
    else
      let c : Cell := ⟨min g.1 1114112, s.1.1, s.1.2.1, s.1.2.2⟩
      if c.ok then (c, g.2.1, 0) else (⟨0, 0, 0, 0⟩, 0, 3)
theorem getCell_ok (E : Env) (b : Value) (bs : List Int) (p : Int) (h : Sl E [] 1 b bs.length (bs.map (.int .u8))) (hb : Byt bs) : Does Try.prog 114 #[b, .int .i64 p] E [] fun r H' =>
    r = .tuple #[.agg (cellR bs p).1.enc.toArray, .int .i64 (cellR bs p).2.1, .int .i64 (cellR bs p).2.2] ∧ H' = [] := by
  refine Does.pure h.len fun hlen => ?_
  have hst : cellR bs p = (if (styleR bs p).2.2 ≠ 0 then (⟨0, 0, 0, 0⟩, 0, (styleR bs p).2.2) else if (getS bs (styleR bs p).2.1).2.2 ≠ 0 then (⟨0, 0, 0, 0⟩, 0, (getS bs (styleR bs p).2.1).2.2)
    else if (Cell.ok ⟨min (getS bs (styleR bs p).2.1).1 1114112, (styleR bs p).1.1, (styleR bs p).1.2.1, (styleR bs p).1.2.2⟩) then (⟨min (getS bs (styleR bs p).2.1).1 1114112, (styleR bs p).1.1, (styleR bs p).1.2.1, (styleR bs p).1.2.2⟩, (getS bs (styleR bs p).2.1).2.1, 0) else (⟨0, 0, 0, 0⟩, 0, 3)) := rfl
  have a1 := getS_bound bs hb (styleR bs p).2.1
  refine Does.go (args := [b, .int .i64 p]) _ _ Try.func114 rfl Try.ntmps114 rfl rfl ?_
  refine Body.seq ?_
  refine Body.region ?_
  refine Ops.s (Stp.alloc ty127 (fun b4 => ?_)) rfl
  refine Ops.u (Dtu.asg (lk rfl)) rfl ?_
  refine Ops.u (Dtu.asg (lk rfl)) rfl ?_
  refine Ops.nil ?_
  refine Then.next ?_
  refine Body.seq ?_
  refine Body.region ?_
  refine Ops.u (Dtu.mv (lk rfl)) rfl ?_
  refine Ops.u (Dtu.mv (lk rfl)) rfl ?_
  refine Ops.s (Stp.call rfl Try.call118 (lks rfl) (fun E' le hat => styleRead_ok E' _ _ _ (Sl.mono (by assumption) le) (by assumption)) ?_) rfl
  rintro _ _ ⟨rfl, rfl⟩
  refine Ops.u (Dtu.mv (lk rfl)) rfl ?_
  refine Ops.u (Dtu.ext (lk rfl) rfl) rfl ?_
  refine Ops.u (Dtu.ext (lk rfl) rfl) rfl ?_
  refine Ops.u (Dtu.ext (lk rfl) rfl) rfl ?_
  refine Ops.s (Stp.alloc ty125 (fun b7 => ?_)) rfl
  refine Ops.e (Stp.store 0 Try.sizeOf125 (lk rfl) (lk rfl) rfl rfl rfl rfl rfl rfl rfl ?_)
  refine Ops.u (Dtu.asg (lk rfl)) rfl ?_
  refine Ops.u (Dtu.asg (lk rfl)) rfl ?_
  refine Ops.nil ?_
  refine Then.next ?_
  refine Body.seq ?_
  refine Body.seq ?_
  refine Body.region ?_
  refine Ops.u (Dtu.mv (lk rfl)) rfl ?_
  refine Ops.u (Dtu.neq (lk rfl) (lk rfl)) rfl ?_
  refine Ops.nil ?_
  refine Then.next ?_
  refine Body.condP (lk rfl) (fun c20 => ?_) (fun c20 => ?_)
  · refine Body.seq ?_
    refine Body.region ?_
    refine Ops.u (Dtu.build ty127 pl127 (lkp rfl) rfl rfl) rfl ?_
    refine Ops.u (Dtu.mv (lk rfl)) rfl ?_
    refine Ops.e (Stp.store 1 Try.sizeOf127 (lk rfl) (lk rfl) rfl rfl rfl rfl rfl rfl rfl ?_)
    refine Ops.u (Dtu.asg (lk rfl)) rfl ?_
    refine Ops.u (Dtu.asg (lk rfl)) rfl ?_
    refine Ops.nil ?_
    refine Then.next ?_
    refine Body.ret ?_
    refine Then.ret ?_
    refine ⟨.inr rfl, _, Loads.agg Try.isAgg127 Try.sizeOf127 (Rds.ow (m := 4) 1 rfl rfl) rfl, _, pk [] rfl, ?_, rfl⟩
    rw [hst, if_pos c20]; rfl
  · refine Body.skip ?_
    refine Then.next ?_
    refine Body.seq ?_
    refine Body.region ?_
    refine Ops.u (Dtu.mv (lk rfl)) rfl ?_
    refine Ops.u (Dtu.mv (lk rfl)) rfl ?_
    refine Ops.s (Stp.call rfl Try.call77 (lks rfl) (fun E' le hat => get_ok E' _ _ _ (Sl.mono (by assumption) le) (by assumption)) ?_) rfl
    rintro _ _ ⟨rfl, rfl⟩
    refine Ops.u (Dtu.mv (lk rfl)) rfl ?_
    refine Ops.u (Dtu.ext (lk rfl) rfl) rfl ?_
    refine Ops.u (Dtu.ext (lk rfl) rfl) rfl ?_
    refine Ops.u (Dtu.ext (lk rfl) rfl) rfl ?_
    refine Ops.u (Dtu.asg (lk rfl)) rfl ?_
    refine Ops.u (Dtu.asg (lk rfl)) rfl ?_
    refine Ops.u (Dtu.asg (lk rfl)) rfl ?_
    refine Ops.nil ?_
    refine Then.next ?_
    refine Body.seq ?_
    refine Body.seq ?_
    refine Body.region ?_
    refine Ops.u (Dtu.mv (lk rfl)) rfl ?_
    refine Ops.u (Dtu.neq (lk rfl) (lk rfl)) rfl ?_
    refine Ops.nil ?_
    refine Then.next ?_
    refine Body.condP (lk rfl) (fun c31 => ?_) (fun c31 => ?_)
    · refine Body.seq ?_
      refine Body.region ?_
      refine Ops.u (Dtu.build ty127 pl127 (lkp rfl) rfl rfl) rfl ?_
      refine Ops.u (Dtu.mv (lk rfl)) rfl ?_
      refine Ops.e (Stp.store 1 Try.sizeOf127 (lk rfl) (lk rfl) rfl rfl rfl rfl rfl rfl rfl ?_)
      refine Ops.u (Dtu.asg (lk rfl)) rfl ?_
      refine Ops.u (Dtu.asg (lk rfl)) rfl ?_
      refine Ops.nil ?_
      refine Then.next ?_
      refine Body.ret ?_
      refine Then.ret ?_
      refine ⟨.inr rfl, _, Loads.agg Try.isAgg127 Try.sizeOf127 (Rds.ow (m := 4) 1 rfl rfl) rfl, _, pk [] rfl, ?_, rfl⟩
      rw [hst, if_neg (by omega), if_pos c31]; rfl
    · refine Body.skip ?_
      refine Then.next ?_
      refine Body.seq ?_
      refine Body.region ?_
      refine Ops.u (Dtu.mv (lk rfl)) rfl ?_
      refine Ops.u (Dtu.min (lk rfl) (lk rfl)) rfl ?_
      refine Ops.u (Dtu.cvt Try.underlying22 Try.underlying21 (lk rfl) (w32 (by omega) (by omega))) rfl ?_
      refine Ops.d (Det.lda Try.isAgg125 Try.sizeOf125 (lk rfl) (Rds.ow (m := 3) 0 rfl rfl) rfl) rfl ?_
      refine Ops.u (Dtu.build ty127 pl127 (lkp rfl) rfl rfl) rfl ?_
      refine Ops.s (Stp.alloc ty127 (fun b11 => ?_)) rfl
      refine Ops.e (Stp.store 0 Try.sizeOf127 (lk rfl) (lk rfl) rfl rfl rfl rfl rfl rfl rfl ?_)
      refine Ops.nil ?_
      refine Then.next ?_
      refine Body.seq ?_
      refine Body.seq ?_
      refine Body.region ?_
      refine Ops.d (Det.lda Try.isAgg127 Try.sizeOf127 (lk rfl) (Rds.ow (m := 4) 0 rfl rfl) rfl) rfl ?_
      refine Ops.s (Stp.call rfl Try.call81 (lks rfl) (fun E' le hat => isCell_ok E' _ _ _ _) ?_) rfl
      rintro _ _ ⟨rfl, rfl⟩
      refine Ops.u (Dtu.not (lk rfl)) rfl ?_
      refine Ops.nil ?_
      refine Then.next ?_
      refine Body.cond (lk rfl) (fun c41 => ?_) (fun c41 => ?_)
      · refine Body.seq ?_
        refine Body.region ?_
        refine Ops.u (Dtu.build ty127 pl127 (lkp rfl) rfl rfl) rfl ?_
        refine Ops.e (Stp.store 2 Try.sizeOf127 (lk rfl) (lk rfl) rfl rfl rfl rfl rfl rfl rfl ?_)
        refine Ops.u (Dtu.asg (lk rfl)) rfl ?_
        refine Ops.u (Dtu.asg (lk rfl)) rfl ?_
        refine Ops.nil ?_
        refine Then.next ?_
        refine Body.ret ?_
        refine Then.ret ?_
        refine ⟨.inr rfl, _, Loads.agg Try.isAgg127 Try.sizeOf127 (Rds.ow (m := 4) 2 rfl rfl) rfl, _, pk [] rfl, ?_, rfl⟩
        rw [hst, if_neg (by omega), if_neg (by omega), if_neg (by simpa using c41)]; rfl
      · refine Body.skip ?_
        refine Then.next ?_
        refine Body.seq ?_
        refine Body.region ?_
        refine Ops.d (Det.lda Try.isAgg127 Try.sizeOf127 (lk rfl) (Rds.ow (m := 4) 0 rfl rfl) rfl) rfl ?_
        refine Ops.u (Dtu.mv (lk rfl)) rfl ?_
        refine Ops.e (Stp.store 2 Try.sizeOf127 (lk rfl) (lk rfl) rfl rfl rfl rfl rfl rfl rfl ?_)
        refine Ops.u (Dtu.asg (lk rfl)) rfl ?_
        refine Ops.u (Dtu.asg (lk rfl)) rfl ?_
        refine Ops.nil ?_
        refine Then.next ?_
        refine Body.ret ?_
        refine ⟨.inr rfl, _, Loads.agg Try.isAgg127 Try.sizeOf127 (Rds.ow (m := 4) 2 rfl rfl) rfl, _, pk [] rfl, ?_, rfl⟩
        rw [hst, if_neg (by omega), if_neg (by omega), if_pos (by simpa using c41)]; rfl
end Go.Proofs.Ytagcpamchgpgiaa
end
section
/- What is written are bytes. -/
namespace Go.Proofs.Ytagcpamchgpgiaa
set_option maxRecDepth 100000
set_option linter.unusedVariables false
set_option linter.unusedSimpArgs false
open Go.Sx

def BytM (l : List Int) : Prop := ∀ x ∈ l, 0 ≤ x ∧ x < 256
theorem Byt.mem {l : List Int} (h : Byt l) : BytM l := fun x hx => by
  obtain ⟨i, hi, rfl⟩ := List.getElem_of_mem hx
  have := h i hi
  rwa [getElem!_pos l i hi] at this
theorem BytM.byt {l : List Int} (h : BytM l) : Byt l := fun i hi => by
  rw [getElem!_pos l i hi]; exact h _ (List.getElem_mem hi)
theorem BytM.append {l k : List Int} (h : BytM l) (h2 : BytM k) : BytM (l ++ k) := fun x hx => by
  rcases List.mem_append.1 hx with h1 | h1
  · exact h x h1
  · exact h2 x h1
theorem BytM.cons {x : Int} {k : List Int} (h : 0 ≤ x ∧ x < 256) (h2 : BytM k) : BytM (x :: k) := fun y hy => by
  rcases List.mem_cons.1 hy with rfl | h1
  · exact h
  · exact h2 y h1
theorem BytM.nil : BytM [] := fun x hx => by simp at hx
theorem putL_byt {v : Int} (h0 : 0 ≤ v) (h1 : v < 4611686018427387904) : BytM (putL v) := fun x hx => by
  have hz := sizeS_pos h1
  obtain ⟨hb0, hb1⟩ := byte0_lt v h0 (by omega)
  obtain ⟨hc, _⟩ := class_of_size (v := v) (by omega)
  simp only [putL, List.mem_map, List.mem_range] at hx
  obtain ⟨j, hj, rfl⟩ := hx
  by_cases e : j = 0
  · subst e; simp only [if_true]; omega
  · simp only [e, if_false]
    unfold byteAt
    omega
def Cell.Fl (c : Cell) : Prop := 0 ≤ c.fl ∧ c.fl < 256
theorem Cell.bytes_byt {c : Cell} (h : c.ok = true) (hf : c.Fl) : BytM c.bytes := by
  have hk : isPt c.pt = true ∧ isCol c.fg = true ∧ isCol c.bg = true := by simpa [Cell.ok, okCell, okSty] using h
  have b1 := isPt_bound hk.1
  have b2 := isCol_bound hk.2.1
  have b3 := isCol_bound hk.2.2
  exact .append (.append (.cons hf .nil) (.append (putL_byt (by omega) (by omega)) (putL_byt (by omega) (by omega)))) (putL_byt (by omega) (by omega))
theorem runsFrom_byt : ∀ (t : List Cell) (c : Cell) (n : Nat), c.ok = true → c.Fl → (∀ d ∈ t, d.ok = true ∧ d.Fl) → n + t.length < 4611686018427387904 → BytM (runsFrom c n t)
  | [], c, n, h, hf, _, hn => .append (putL_byt (by omega) (by simp at hn; omega)) (c.bytes_byt h hf)
  | d :: t, c, n, h, hf, hall, hn => by
    have hd := hall d (by simp)
    simp only [List.length_cons] at hn
    simp only [runsFrom]
    split
    · exact runsFrom_byt t c (n + 1) h hf (fun e he => hall e (by simp [he])) (by omega)
    · exact .append (.append (putL_byt (by omega) (by omega)) (c.bytes_byt h hf)) (runsFrom_byt t d 1 hd.1 hd.2 (fun e he => hall e (by simp [he])) (by omega))
theorem runsB_byt {l : List Cell} (h : ∀ d ∈ l, d.ok = true ∧ d.Fl) (hn : l.length < 4611686018427387904) : BytM (runsB l) := by
  cases l with
  | nil => exact .nil
  | cons c t => exact runsFrom_byt t c 1 (h c (by simp)).1 (h c (by simp)).2 (fun d hd => h d (by simp [hd])) (by simp at hn; omega)
theorem View.ok_fits {v : View} (h : v.ok = true) : v.fits ∧ ∀ c ∈ v.cells, c.ok = true := by
  simp only [View.ok, Bool.and_eq_true, decide_eq_true_eq, List.all_eq_true] at h
  exact h
theorem View.bytes_byt {v : View} (h : v.ok = true) (hf : ∀ c ∈ v.cells, c.Fl) : Byt v.bytes := by
  obtain ⟨⟨hrc, f1, f2, f3, f4, f5⟩, hc⟩ := View.ok_fits h
  have hm := mul_bound hrc
  refine BytM.byt (.append (.cons (by omega) (.cons (by omega) (.cons (by omega) (.cons (by omega) (.cons ?_ .nil))))) (runsB_byt (fun d hd => ⟨hc d hd, hf d hd⟩) (by omega)))
  split <;> omega
theorem styleR_fl (bs : List Int) (hb : Byt bs) (p : Int) : 0 ≤ (styleR bs p).1.1 ∧ (styleR bs p).1.1 < 256 := by
  unfold styleR
  split
  · simp
  · split
    · simp
    · rename_i h1 h2
      have := hb p.toNat (by omega)
      dsimp only
      (repeat' split) <;> first | exact this | simp
theorem cellR_fl (bs : List Int) (hb : Byt bs) (p : Int) : (cellR bs p).1.Fl := by
  have := styleR_fl bs hb p
  unfold cellR Cell.Fl
  dsimp only
  (repeat' split) <;> first | exact this | simp
theorem styleR_next (bs : List Int) (p : Int) : (styleR bs p).2.2 = 0 → 0 ≤ p ∧ p < (styleR bs p).2.1 ∧ (styleR bs p).2.1 ≤ bs.length := by
  unfold styleR
  have g1 := getS_next bs (p + 1)
  have g2 := getS_next bs (getS bs (p + 1)).2.1
  dsimp only
  (repeat' split) <;> intro h <;> first | (simp at h; done) | (dsimp only at h ⊢; omega)
theorem cellR_next (bs : List Int) (p : Int) : (cellR bs p).2.2 = 0 → 0 ≤ p ∧ p < (cellR bs p).2.1 ∧ (cellR bs p).2.1 ≤ bs.length := by
  unfold cellR
  have g1 := styleR_next bs p
  have g2 := getS_next bs (styleR bs p).2.1
  dsimp only
  (repeat' split) <;> intro h <;> first | (simp at h; done) | (dsimp only at h ⊢; omega)
end Go.Proofs.Ytagcpamchgpgiaa
end
section
/- What bytes are read as: a view. -/
namespace Go.Proofs.Ytagcpamchgpgiaa
set_option maxRecDepth 100000
set_option linter.unusedVariables false
set_option linter.unusedSimpArgs false
open Go.Sx

theorem bytesEqual_ok (E : Env) (s t : Value) (xs ys : List Int) (hx : Sl E [] 1 s xs.length (xs.map (.int .u8))) (hy : Sl E [] 1 t ys.length (ys.map (.int .u8))) (bx : Byt xs) (by_ : Byt ys) : Does Try.prog 78 #[s, t] E [] fun r H' => r = .bool (decide (xs = ys)) ∧ H' = [] := by
  refine Does.go (args := [s, t]) _ _ Try.func78 rfl Try.ntmps78 rfl rfl ?_
  refine Body.seq ?_
  refine Body.region ?_
  refine Ops.u (Dtu.asg (lk rfl)) rfl ?_
  refine Ops.nil ?_
  refine Then.next ?_
  refine Body.seq ?_
  refine Body.region ?_
  refine Ops.u (Dtu.mv (lk rfl)) rfl ?_
  refine Ops.d (Det.bstr Try.underlying23 Try.underlying5 Try.underlying9 (lk rfl) (Sl.up hx)) rfl ?_
  refine Ops.u (Dtu.mv (lk rfl)) rfl ?_
  refine Ops.d (Det.bstr Try.underlying23 Try.underlying5 Try.underlying9 (lk rfl) (Sl.up hy)) rfl ?_
  refine Ops.u (Dtu.eqStr (lk rfl) (lk rfl)) rfl ?_
  refine Ops.u (Dtu.asg (lk rfl)) rfl ?_
  refine Ops.nil ?_
  refine Then.next ?_
  refine Body.ret ?_
  refine ⟨.inr rfl, _, pk [] rfl, bool_eq ?_, rfl⟩
  rw [decide_eq_true_iff, decide_eq_true_iff, strOfNums_inj bx by_]
end Go.Proofs.Ytagcpamchgpgiaa
end
section
/- What comes of the fixed calls of longlinelaw20. -/
namespace Go.Proofs.Ytagcpamchgpgiaa
set_option maxRecDepth 100000
set_option linter.unusedVariables false
set_option linter.unusedSimpArgs false
open Go.Sx

theorem slNone (E : Env) (sz : Nat) : Sl E [] sz (.slice none 0 0) 0 [] := fun w s => ⟨by simp, by decide, .inl ⟨rfl, none, 0, rfl, by decide⟩⟩
end Go.Proofs.Ytagcpamchgpgiaa
end
section
/- ViewSizes. -/
namespace Go.Proofs.Ytagcpamchgpgiaa
set_option maxRecDepth 100000
set_option linter.unusedVariables false
set_option linter.unusedSimpArgs false
open Go.Sx

theorem sizeS_4 {v : Int} (h : v < 1073741824) : sizeS v ≤ 4 := by
  unfold sizeS classS; (repeat' split) <;> simp_all <;> omega
theorem sizeS_2 {v : Int} (h : v < 16384) : sizeS v ≤ 2 := by
  unfold sizeS classS; (repeat' split) <;> simp_all <;> omega
theorem Cell.size_13 {c : Cell} (h : c.ok = true) : c.size ≤ 13 := by
  have hk : isPt c.pt = true ∧ isCol c.fg = true ∧ isCol c.bg = true := by simpa [Cell.ok, okCell, okSty] using h
  have b1 := isPt_bound hk.1
  have b2 := isCol_bound hk.2.1
  have b3 := isCol_bound hk.2.2
  have := sizeS_4 (v := c.pt) (by omega)
  have := sizeS_4 (v := c.fg) (by omega)
  have := sizeS_4 (v := c.bg) (by omega)
  unfold Cell.size Cell.styleN; omega
end Go.Proofs.Ytagcpamchgpgiaa
end
section
/- From a contract to the statement's conclusion: a call that writes nothing of what was there, and returns true. -/
namespace Go.Proofs.Ytagcpamchgpgiaa
set_option linter.unusedVariables false
open Go.Sx Go.ChangeShapes Go.RowKit Go.WideShapes Go.ChangeAt

theorem below_of_St {W W' : World} {H : List HProp} (s : St (envOf W) H W') : Below W.heap.size W W' where
  os := s.os
  tape := s.tape
  output := s.output
  block := fun k hk => by
    have h : W.heap[k]? = some W.heap[k] := Array.getElem?_eq_getElem hk
    have := s.keep k _ h
    rw [h]; exact this
  size := by
    by_cases h0 : W.heap.size = 0
    · omega
    · have hk : W.heap.size - 1 < W.heap.size := by omega
      have h : W.heap[W.heap.size - 1]? = some W.heap[W.heap.size - 1] := Array.getElem?_eq_getElem hk
      have h2 : W'.heap[W.heap.size - 1]? = some W.heap[W.heap.size - 1] := s.keep _ _ h
      have := (Array.getElem?_eq_some_iff.1 h2).1
      omega
section
variable {H : Type} {enc : TypeId × Value → H} {P : Program}
theorem trodAll_below (hl : laidOutB P = true) {W W' : World} (hb : Below W.heap.size W W') (sp : Nat → Bool) : ∀ {ts : List TypeId} {vs : List Value} {ds : List (DataW H)} {ps : List MemPlace},
    (∀ t ∈ ts, P.readableRec t = true ∧ t < P.types.size) → DataW.TrodAll enc P W 0 (fun _ => true) true ts vs ds ps → (∀ x ∈ ps, x.block < W.heap.size) → (∀ x ∈ ps, sp x.block = true) → DataW.TrodAll enc P W' 0 sp true ts vs ds ps
  | [], [], [], _, _, h, _, _ => h
  | t :: _, _ :: _, _ :: _, _, ht, ⟨p, q, h1, h2, e⟩, hlt, hs =>
    ⟨p, q, WideElems.Trod_stays hl (ht t (by simp)).1 (ht t (by simp)).2 h1 (fun x hx => hb.same (hlt x (by rw [e]; exact List.mem_append_left _ hx))) (fun x hx => hs x (by rw [e]; exact List.mem_append_left _ hx)),
      trodAll_below hl hb sp (fun t' ht' => ht t' (List.mem_cons_of_mem _ ht')) h2 (fun x hx => hlt x (by rw [e]; exact List.mem_append_right _ hx)) (fun x hx => hs x (by rw [e]; exact List.mem_append_right _ hx)), e⟩
theorem post_of_below {f : Func} {s : ChangeSpec} {apart fresh handsOn : Bool} {W W' : World} {args : Array Value} {ds gs : List (DataW H)} {before : List MemPlace} {tb : TypeId}
    (hvars : s.vars = []) (hfn : s.fn H ds = { results := [.lit (.bool true)], args := ds }) (hres : f.resultTypes = #[tb]) (hub : P.underlying tb = some .bool)
    (hl : laidOutB P = true) (hpar : ∀ t ∈ f.params.toList, P.readableRec t = true ∧ t < P.types.size)
    (hW : DataW.Whole enc P f.params.toList s.vars apart W args.toList ds gs before) (hb : Below W.heap.size W W') : s.post enc P f apart fresh handsOn false W args (.bool true) W' := by
  have hlt : ∀ x ∈ before, x.block < W.heap.size := fun x hx => by simpa using hW.lt x hx
  have hW' := hW
  obtain ⟨p, q, hA, hV, rfl, _, _⟩ := hW
  rw [hvars] at hV
  obtain ⟨rfl, rfl⟩ := trodVars_none hV
  rw [List.append_nil] at hW' hlt
  refine ⟨ds, [], p, [], p, [], hW', ?_, ?_, ?_, hb.frame _, fun h => by cases h⟩
  · rw [List.append_nil, hfn, hres]
    exact trodAll_cons_mk (shut_bool hub _) trodAll_mk0
  · rw [List.append_nil, hfn]
    exact trodAll_below hl hb _ hpar hA hlt (fun x hx => by simpa using hlt x hx)
  · rw [List.append_nil, hfn, hvars]; exact rfl
end
end Go.Proofs.Ytagcpamchgpgiaa
end
section
/- What a view is that comes in. -/
namespace Go.Proofs.Ytagcpamchgpgiaa
set_option maxRecDepth 100000
set_option linter.unusedVariables false
set_option linter.unusedSimpArgs false
open Go.Sx Go.ChangeShapes Go.RowKit

section
variable {H : Type} {enc : TypeId × Value → H} {W : World} {base : Nat} {sp : Nat → Bool} {held : Bool} {fuel : Nat} {cs : List Value} {x : DataW H × List MemPlace}
theorem fldT {P : Program} {t : TypeId} {fs : Array Field} (ht : P.underlying t = some (.struct fs)) (h : DataW.trod enc P W base sp held fuel t cs = some x) (i : Nat) (t' off c : Nat) {f : Field} (hi : fs[i]? = some f) (e1 : f.type = t') (e2 : f.offset = off) (e3 : P.cellsOf t' = c) :
    ∃ n y, DataW.trod enc P W base sp held n t' ((cs.drop off).take c) = some y := by
  subst e1 e2 e3
  obtain ⟨xs, n, _, _, _, hl, hf⟩ := DataW.trod_struct ht h
  have hlt : i < xs.length := by rw [hl]; exact (Array.getElem?_eq_some_iff.1 hi).1
  exact ⟨n, xs[i], by rw [hf i f hi, List.getElem?_eq_getElem hlt]⟩
theorem lenT {P : Program} {t : TypeId} {fs : Array Field} (ht : P.underlying t = some (.struct fs)) (h : DataW.trod enc P W base sp held fuel t cs = some x) : cs.length = P.cellsOf t := by
  obtain ⟨xs, n, _, _, hc, _, _⟩ := DataW.trod_struct ht h
  exact hc
theorem cells1_21 : Try.prog.cellsOf 21 = 1 := by kernel_rfl
theorem cells1_5 : Try.prog.cellsOf 5 = 1 := by kernel_rfl
theorem cells1_123 : Try.prog.cellsOf 123 = 1 := by kernel_rfl
theorem cells1_3 : Try.prog.cellsOf 3 = 1 := by kernel_rfl
theorem cells1_4 : Try.prog.cellsOf 4 = 1 := by kernel_rfl
theorem cells1_58 : Try.prog.cellsOf 58 = 1 := by kernel_rfl
theorem cells3_125 : Try.prog.cellsOf 125 = 3 := by kernel_rfl
theorem cells4_127 : Try.prog.cellsOf 127 = 4 := by kernel_rfl
theorem cells6_60 : Try.prog.cellsOf 60 = 6 := by kernel_rfl
def Cell.In32 (c : Cell) : Prop := c.In ∧ -2147483648 ≤ c.pt ∧ c.pt ≤ 2147483647
theorem trod_cell (h : DataW.trod enc Try.prog W base sp held fuel 127 cs = some x) : ∃ c : Cell, cs = c.enc ∧ c.In32 := by
  have hl := lenT Try.underlying127 h
  rw [cells4_127] at hl
  match cs, hl with
  | [v0, v1, v2, v3], _ =>
    obtain ⟨n0, y0, h0⟩ := fldT Try.underlying127 h 0 21 0 1 rfl rfl rfl cells1_21
    obtain ⟨n1, y1, h1⟩ := fldT Try.underlying127 h 1 125 1 3 rfl rfl rfl cells3_125
    obtain ⟨a0, e0, _, w0⟩ := DataW.trod_int Try.underlying21 h0
    obtain ⟨n2, y2, h2⟩ := fldT Try.underlying125 h1 0 5 0 1 rfl rfl rfl cells1_5
    obtain ⟨n3, y3, h3⟩ := fldT Try.underlying125 h1 1 123 1 1 rfl rfl rfl cells1_123
    obtain ⟨n4, y4, h4⟩ := fldT Try.underlying125 h1 2 123 2 1 rfl rfl rfl cells1_123
    obtain ⟨a1, e1, _, w1⟩ := DataW.trod_int Try.underlying5 h2
    obtain ⟨a2, e2, _, w2⟩ := DataW.trod_int Try.underlying123 h3
    obtain ⟨a3, e3, _, w3⟩ := DataW.trod_int Try.underlying123 h4
    simp at e0 e1 e2 e3
    subst e0 e1 e2 e3
    have b0 := bounds_i32 w0
    have b1 := bounds_u8 w1
    have b2 := bounds_u32 w2
    have b3 := bounds_u32 w3
    exact ⟨⟨a0, a1, a2, a3⟩, rfl, ⟨by dsimp only; omega, by dsimp only; omega, by dsimp only; omega, by dsimp only; omega, by dsimp only; omega, by dsimp only; omega⟩, b0.1, b0.2⟩
theorem keep_cell {E : Env} {Hs : List HProp} {w' : World} (s : St (envOf W) Hs w') {a : Addr} {v : Value} (h : W.cell? a = some v) : w'.cell? a = some v := by
  unfold World.cell? at h ⊢
  cases hb : W.heap[a.block]? with
  | none => rw [hb] at h; cases h
  | some o =>
    have hk : w'.heap[a.block]? = some o := s.keep _ _ hb
    rw [hb] at h; rw [hk]; exact h
theorem spot_none {a : Addr} {v : Value} (h : W.cell? a = some v) : a.spot = none := by
  unfold World.cell? at h
  split at h
  · split at h
    · cases h
    · rename_i h1; simpa using h1
  · cases h
theorem flatC_len (l : List Cell) : (l.flatMap Cell.enc).length = l.length * 4 := by
  induction l with
  | nil => rfl
  | cons c t ih => rw [List.flatMap_cons, List.length_append, ih]; simp [Cell.enc]; omega
theorem trod_cells (h : DataW.trod enc Try.prog W base (fun _ => true) held fuel 58 cs = some x) : ∃ (s : Value) (cells : List Cell), cs = [s] ∧ Sl (envOf W) [] 4 s cells.length (cells.flatMap Cell.enc) ∧ ∀ c ∈ cells, c.In32 := by
  rcases Go.Deep.open_slice Try.underlying58 h with ⟨rfl, _⟩ | ⟨a, len, cap, m, n, D, Pl, rfl, hb, hl, hm, hmm, _, hx⟩
  · exact ⟨_, [], rfl, slNone _ 4, by simp⟩
  · simp only [if_true] at hmm
    subst hmm
    have hc : ∀ i, i < m → ∃ c : Cell, (∀ j, j < 4 → W.cell? (a.add (i * 4 + j)) = c.enc[j]?) ∧ c.In32 := fun i hi => by
      obtain ⟨cs', h1, h2⟩ := hx i hi
      rw [cells4_127] at h1
      obtain ⟨_, _, h3⟩ := World.cells?_some h1
      obtain ⟨c, rfl, hin⟩ := trod_cell h2
      refine ⟨c, fun j hj => ?_, hin⟩
      have := h3 j hj
      rwa [Go.Deep.add_add] at this
    have : ∃ f : Nat → Cell, ∀ i, i < m → (∀ j, j < 4 → W.cell? (a.add (i * 4 + j)) = (f i).enc[j]?) ∧ (f i).In32 :=
      ⟨fun i => if h : i < m then Classical.choose (hc i h) else default, fun i hi => by dsimp only; rw [dif_pos hi]; exact Classical.choose_spec (hc i hi)⟩
    obtain ⟨f, hf⟩ := this
    refine ⟨_, (List.range len).map f, rfl, ?_, ?_⟩
    · have e1 : ((List.range len).map f).length = len := by simp
      rw [e1]
      intro w' s
      by_cases h0 : len = 0
      · subst h0
        exact ⟨by simp, by simp, .inl ⟨rfl, some a, m, rfl, hm⟩⟩
      · have h00 := (hf 0 (by omega)).1 0 (by omega)
        have hspot : a.spot = none := by
          have e : a.add (0 * 4 + 0) = a := by simp [Addr.add]
          rw [e] at h00
          exact spot_none (v := .int .i32 (f 0).pt) h00
        obtain ⟨b, off, spot⟩ := a
        dsimp only at hspot
        subst hspot
        refine ⟨by rw [flatC_len, e1], by omega, .inr ⟨m, rfl, hl, hm, fun j u hj => ?_⟩⟩
        have hjl : j < len * 4 := by
          have := (List.getElem?_eq_some_iff.1 hj).1
          rw [flatC_len, e1] at this
          exact this
        have hd := flat_drop (enc := Cell.enc) (sz := 4) (fun _ => rfl) ((List.range len).map f) (j / 4)
        have hg := gf (enc := Cell.enc) (sz := 4) (fun _ => rfl) (xs := (List.range len).map f) (i := j / 4) (by simp; omega)
        have hi : ((List.range len).map f)[j / 4]! = f (j / 4) := by
          rw [getElem!_pos _ _ (by simp; omega)]; simp
        rw [hi] at hg
        have hu : (f (j / 4)).enc[j % 4]? = some u := by
          rw [← hg, List.getElem?_take_of_lt (by omega), List.getElem?_drop, show j / 4 * 4 + j % 4 = j by omega]; exact hj
        have h2 := (hf (j / 4) (by omega)).1 (j % 4) (by omega)
        rw [hu, addr_add, show j / 4 * 4 + j % 4 = j by omega] at h2
        exact keep_cell (E := envOf W) s h2
    · intro c hc'
      simp only [List.mem_map, List.mem_range] at hc'
      obtain ⟨i, hi, rfl⟩ := hc'
      exact (hf i (by omega)).2
end
end Go.Proofs.Ytagcpamchgpgiaa
end
section
/- A view as an argument. -/
namespace Go.Proofs.Ytagcpamchgpgiaa
set_option maxRecDepth 100000
set_option linter.unusedVariables false
set_option linter.unusedSimpArgs false
open Go.Sx Go.ChangeShapes Go.RowKit Go.WideShapes

end Go.Proofs.Ytagcpamchgpgiaa
end
section
/- Bytes that were written are read as what they were written of. -/
namespace Go.Proofs.Ytagcpamchgpgiaa
set_option maxRecDepth 100000
set_option linter.unusedVariables false
set_option linter.unusedSimpArgs false
open Go.Sx

/-- the number that n bytes from the place j on make, behind v -/
theorem foldB_bytes (v : Int) (n : Nat) : ∀ (m j : Nat), j + m = n → foldB (v / 256 ^ (n - j)) ((List.range' j m).map (byteAt v n)) = v
  | 0, j, h => by
    have : n - j = 0 := by omega
    rw [this]; simp [foldB]
  | m + 1, j, h => by
    have e : foldB (v / 256 ^ (n - j)) ((List.range' j (m + 1)).map (byteAt v n)) = foldB (v / 256 ^ (n - j) * 256 + byteAt v n j) ((List.range' (j + 1) m).map (byteAt v n)) := rfl
    rw [e]
    have e2 : v / 256 ^ (n - j) * 256 + byteAt v n j = v / 256 ^ (n - (j + 1)) := by
      unfold byteAt
      rw [show n - j = (n - (j + 1)) + 1 by omega, show n - 1 - j = n - (j + 1) by omega, Int.pow_succ, ← Int.ediv_ediv_of_nonneg (Int.pow_nonneg (by omega))]
      omega
    rw [e2]
    exact foldB_bytes v n m (j + 1) (by omega)
theorem putL_head {v : Int} (h0 : 0 ≤ v) (h1 : v < 4611686018427387904) : putL v = (byteAt v (sizeS v) 0 + 64 * (classS v : Int)) :: (List.range' 1 (sizeS v - 1)).map (byteAt v (sizeS v)) := by
  have hz := sizeS_pos h1
  unfold putL
  obtain ⟨m, hm⟩ : ∃ m, sizeS v = m + 1 := ⟨sizeS v - 1, by omega⟩
  rw [hm, List.range_succ_eq_map]
  simp only [List.map_cons, if_true, List.map_map, Nat.add_sub_cancel]
  congr 1
  rw [List.range'_eq_map_range, List.map_map]
  refine List.map_congr_left fun j hj => ?_
  simp [Nat.add_comm]
theorem manyS_put {v : Int} (h0 : 0 ≤ v) (h1 : v < 4611686018427387904) : manyS (byteAt v (sizeS v) 0 + 64 * (classS v : Int)) = sizeS v ∧ (byteAt v (sizeS v) 0 + 64 * (classS v : Int)) % 64 = byteAt v (sizeS v) 0 := by
  have hz := sizeS_pos h1
  obtain ⟨hb0, hb1⟩ := byte0_lt v h0 (by omega)
  obtain ⟨hc, hs⟩ := class_of_size (v := v) (by omega)
  refine ⟨?_, by omega⟩
  unfold manyS
  have : ((byteAt v (sizeS v) 0 + 64 * (classS v : Int)) / 64).toNat = classS v := by omega
  rw [this, ← hs]
theorem getS_put (l r : List Int) {v : Int} (h0 : 0 ≤ v) (h1 : v < 4611686018427387904) : getS (l ++ (putL v ++ r)) l.length = (v, (l.length : Int) + sizeS v, 0) := by
  have hz := sizeS_pos h1
  obtain ⟨hm1, hm2⟩ := manyS_put h0 h1
  obtain ⟨hb0, hb1⟩ := byte0_lt v h0 (by omega)
  have hp := putL_head h0 h1
  have hlen := putL_len v
  have hx : (l ++ (putL v ++ r))[l.length]! = byteAt v (sizeS v) 0 + 64 * (classS v : Int) := by
    rw [hp]
    rw [getElem!_pos _ _ (by simp)]
    simp
  have htake : ((l ++ (putL v ++ r)).drop (l.length + 1)).take (sizeS v - 1) = (List.range' 1 (sizeS v - 1)).map (byteAt v (sizeS v)) := by
    rw [List.drop_append, List.drop_eq_nil_of_le (by omega), List.nil_append, show l.length + 1 - l.length = 1 by omega, hp, List.cons_append, List.drop_succ_cons, List.drop_zero]
    rw [List.take_append_of_le_length (by simp), List.take_of_length_le (by simp)]
  unfold getS
  have hl : (l ++ (putL v ++ r)).length = l.length + (sizeS v + r.length) := by simp [hlen]
  rw [if_neg (by rw [hl]; omega), if_neg (by rw [hl]; omega)]
  simp only [Int.toNat_natCast]
  rw [hx, hm1, hm2, if_neg (by rw [hl]; omega), htake]
  have hf : foldB (byteAt v (sizeS v) 0) ((List.range' 1 (sizeS v - 1)).map (byteAt v (sizeS v))) = v := by
    have h := foldB_bytes v (sizeS v) (sizeS v - 1) 1 (by omega)
    have e : v / 256 ^ (sizeS v - 1) = byteAt v (sizeS v) 0 := by
      unfold byteAt
      have hq : v / 256 ^ (sizeS v - 1) < 256 := by
        unfold sizeS classS at *
        (repeat' split) <;> simp_all <;> omega
      have hq0 : 0 ≤ v / 256 ^ (sizeS v - 1) := Int.ediv_nonneg h0 (Int.pow_nonneg (by omega))
      rw [Nat.sub_zero, Int.emod_eq_of_lt hq0 hq]
    rw [e] at h
    exact h
  rw [hf]
  simp
end Go.Proofs.Ytagcpamchgpgiaa
end
section
/- Views that were written are read as they were. -/
namespace Go.Proofs.Ytagcpamchgpgiaa
set_option maxRecDepth 100000
set_option linter.unusedVariables false
set_option linter.unusedSimpArgs false
open Go.Sx

theorem styleR_put (l r : List Int) {c : Cell} (h : c.okStyle = true) : styleR (l ++ (c.styleB ++ r)) l.length = ((c.fl, c.fg, c.bg), (l.length : Int) + c.styleN, 0) := by
  have hf : isCol c.fg = true ∧ isCol c.bg = true := by simpa [Cell.okStyle, okSty] using h
  have b1 := isCol_bound hf.1
  have b2 := isCol_bound hf.2
  have e1 : l ++ (c.styleB ++ r) = (l ++ [c.fl]) ++ (putL c.fg ++ (putL c.bg ++ r)) := by simp [Cell.styleB]
  have e2 : l ++ (c.styleB ++ r) = (l ++ [c.fl] ++ putL c.fg) ++ (putL c.bg ++ r) := by simp [Cell.styleB]
  have g1 := getS_put (l ++ [c.fl]) (putL c.bg ++ r) (v := c.fg) (by omega) (by omega)
  have g2 := getS_put (l ++ [c.fl] ++ putL c.fg) r (v := c.bg) (by omega) (by omega)
  rw [← e1, show (((l ++ [c.fl]).length : Nat) : Int) = (l.length : Int) + 1 by simp] at g1
  rw [← e2, show (((l ++ [c.fl] ++ putL c.fg).length : Nat) : Int) = (l.length : Int) + 1 + sizeS c.fg by simp [putL_len]; omega] at g2
  have hl : (l ++ (c.styleB ++ r)).length = l.length + (1 + sizeS c.fg + sizeS c.bg + r.length) := by simp [Cell.styleB, putL_len]; omega
  have hx : (l ++ (c.styleB ++ r))[l.length]! = c.fl := by
    rw [getElem!_pos _ _ (by rw [hl]; omega)]
    simp [Cell.styleB]
  unfold styleR
  rw [if_neg (by rw [hl]; omega), if_neg (by rw [hl]; omega)]
  simp only [g1, g2, Int.toNat_natCast, hx]
  rw [Int.min_eq_left (by omega), Int.min_eq_left (by omega)]
  simp only [hf.1, hf.2, Bool.and_self, if_true]
  simp [Cell.styleN]; omega
theorem cellR_put (l r : List Int) {c : Cell} (h : c.ok = true) : cellR (l ++ (c.bytes ++ r)) l.length = (c, (l.length : Int) + c.size, 0) := by
  have hk : isPt c.pt = true ∧ c.okStyle = true := by simpa [Cell.ok, okCell] using h
  have b1 := isPt_bound hk.1
  have e1 : l ++ (c.bytes ++ r) = l ++ (c.styleB ++ (putL c.pt ++ r)) := by simp [Cell.bytes]
  have e2 : l ++ (c.bytes ++ r) = (l ++ c.styleB) ++ (putL c.pt ++ r) := by simp [Cell.bytes]
  have g1 := styleR_put l (putL c.pt ++ r) hk.2
  have g2 := getS_put (l ++ c.styleB) r (v := c.pt) (by omega) (by omega)
  have hs : c.styleB.length = c.styleN := by simp [Cell.styleB, Cell.styleN, putL_len]; omega
  rw [← e1] at g1
  rw [← e2, show (((l ++ c.styleB).length : Nat) : Int) = (l.length : Int) + c.styleN by simp [hs]] at g2
  unfold cellR
  simp only [g1, g2]
  rw [Int.min_eq_left (by omega)]
  have : (⟨c.pt, c.fl, c.fg, c.bg⟩ : Cell).ok = true := h
  simp only [this, if_true]
  simp [Cell.size]; omega
end Go.Proofs.Ytagcpamchgpgiaa
end
section
/- view.Write and view.Read, whatever comes in: one contract each. -/
namespace Go.Proofs.Ytagcpamchgpgiaa
set_option maxRecDepth 100000
set_option linter.unusedVariables false
set_option linter.unusedSimpArgs false
open Go.Sx

end Go.Proofs.Ytagcpamchgpgiaa
end
section
/- ViewBack. -/
namespace Go.Proofs.Ytagcpamchgpgiaa
set_option maxRecDepth 100000
set_option linter.unusedVariables false
set_option linter.unusedSimpArgs false
open Go.Sx

end Go.Proofs.Ytagcpamchgpgiaa
end
section
/- Bytes as an argument. -/
namespace Go.Proofs.Ytagcpamchgpgiaa
set_option maxRecDepth 100000
set_option linter.unusedVariables false
set_option linter.unusedSimpArgs false
open Go.Sx Go.ChangeShapes Go.RowKit Go.WideShapes
section
variable {H : Type} {enc : TypeId × Value → H} {W : World} {base : Nat} {held : Bool} {fuel : Nat} {cs : List Value} {x : DataW H × List MemPlace}
theorem Cell.In32.Fl {c : Cell} (h : c.In32) : c.Fl := ⟨h.1.1, h.1.2.1⟩
end
end Go.Proofs.Ytagcpamchgpgiaa
end
section
/- Patches: what a patch is; the cells it begins with; numbers' bytes. -/
namespace Go.Proofs.Ytagcpamchgpgiaa
set_option maxRecDepth 100000
set_option linter.unusedVariables false
set_option linter.unusedSimpArgs false
open Go.Sx

def blankC : Cell := ⟨32, 0, 0, 0⟩
/-- the cells that a patch begins with -/
def baseC (a : View) (r c : Int) : List Cell := if a.rows = r ∧ a.cols = c then a.cells else List.replicate (r * c).toNat blankC
/-- the runs from some cells to others: how many are skipped, and what comes there -/
def difR (k : Nat) : List Cell → List (Cell × Cell) → List (Nat × List Cell)
  | run, [] => if run = [] then [] else [(k, run)]
  | run, (x, y) :: t => if x = y then (if run = [] then difR (k + 1) [] t else (k, run) :: difR 1 [] t) else difR k (run ++ [y]) t
def encR (r : Nat × List Cell) : List Int := putL r.1 ++ (putL r.2.length ++ r.2.flatMap Cell.bytes)
/-- the patch from a view to another one -/
def difB (a b : View) : List Int := b.head ++ (difR 0 [] ((baseC a b.rows b.cols).zip b.cells)).flatMap encR
theorem mul_bound0 {a b : Int} (h : 0 ≤ a ∧ a ≤ 12 ∧ 0 ≤ b ∧ b ≤ 40) : 0 ≤ a * b ∧ a * b ≤ 480 :=
  ⟨Int.mul_nonneg h.1 h.2.2.1, by have := Int.mul_le_mul h.2.1 h.2.2.2 (by omega) (by omega : (0:Int) ≤ 12); omega⟩
theorem enc_one (c : Cell) : c.enc.all (·.oneCell') = true := rfl
theorem base_ok (E : Env) (a : View) (s : Value) (r c : Int) (h : a.has E [] s) (hl : a.cells.length ≤ 480) (hr : 0 ≤ r ∧ r ≤ 12 ∧ 0 ≤ c ∧ c ≤ 40) : Does Try.prog 94 #[a.val s, .int .i64 r, .int .i64 c] E [] fun v H' => ∃ (p : Option Addr) (m k : Nat), v = .slice p m k ∧ H' = [osl 127 4 (.slice p m k) (baseC a r c).length ((baseC a r c).flatMap Cell.enc)] := by
  unfold View.has at h
  refine Does.pure h.isSl fun hs => ?_
  obtain ⟨sa, sm, sc, rfl⟩ := hs
  have hm := mul_bound0 hr
  obtain ⟨q, hq⟩ := Int.eq_ofNat_of_zero_le hm.1
  have hw : IntKind.i64.wrap (r * c) = (q : Int) := by rw [w64 (by omega) (by omega), hq]
  have hrep : ∀ E' v, Sl E' [] 4 v 1 (Cell.enc blankC) → Does Try.prog 111 #[v, .int .i64 q] E' [] (fun r H' => H' = [osl 127 4 r q ((List.replicate q blankC).flatMap Cell.enc)] ∧ IsSl r) := by
    intro E' v hS
    rw [← rep_flat]
    exact repeatC_ok E' v _ q hS rfl (by omega)
  refine Does.go (args := [a.val (.slice sa sm sc), .int .i64 r, .int .i64 c]) _ _ Try.func94 rfl Try.ntmps94 rfl rfl ?_
  by_cases he : a.rows = r ∧ a.cols = c
  · have hb : baseC a r c = a.cells := by simp [baseC, he]
    obtain ⟨e1, e2⟩ := he
    rw [hb]
    refine Body.seq ?_
    refine Body.region ?_
    refine Ops.s (Stp.box (lk rfl) rfl (fun b3 => ?_)) rfl
    refine Ops.u (Dtu.asg (lk rfl)) rfl ?_
    refine Ops.nil ?_
    refine Then.next ?_
    refine Body.seq ?_
    refine Body.seq ?_
    refine Body.region ?_
    refine Ops.u (Dtu.fld fa60_0 (lk rfl)) rfl ?_
    refine Ops.d (Det.ld Try.isAgg3 (lk rfl) (Rd.ow 0 rfl rfl)) rfl ?_
    refine Ops.u (Dtu.mv (lk rfl)) rfl ?_
    refine Ops.u (Dtu.eql (lk rfl) (lk rfl)) rfl ?_
    refine Ops.u (Dtu.mv (lk rfl)) rfl ?_
    refine Ops.decP 11 rfl (fun _ => ?_) (fun hn => absurd (by first | omega | assumption | decide) hn)
    refine Ops.gu rfl rfl rfl (Dtu.fld fa60_1 (lk rfl)) rfl ?_
    refine Ops.gd rfl rfl rfl (Det.ld Try.isAgg3 (lk rfl) (Rd.ow 0 rfl rfl)) rfl ?_
    refine Ops.gu rfl rfl rfl (Dtu.mv (lk rfl)) rfl ?_
    refine Ops.gu rfl rfl rfl (Dtu.eql (lk rfl) (lk rfl)) rfl ?_
    refine Ops.u (Dtu.pickT (lk rfl) (lk rfl)) rfl ?_
    refine Ops.nil ?_
    refine Then.next ?_
    refine Body.condP (lk rfl) (fun _ => ?_) (fun hn => absurd (by first | omega | assumption | decide) hn)
    refine Body.seq ?_
    refine Body.region ?_
    refine Ops.u (Dtu.fld fa60_2 (lk rfl)) rfl ?_
    refine Ops.d (Det.ld Try.isAgg58 (lk rfl) (Rd.ow 0 rfl rfl)) rfl ?_
    refine Ops.s (Stp.call rfl Try.call68 (lks rfl) (fun E' le hat => cloneC_ok E' _ _ _ (Sl.mono (by assumption) le) (all_flat enc_one _) (by omega)) ?_) rfl
    rintro _ _ ⟨rfl, za19, zm19, zc19, rfl⟩
    refine Ops.u (Dtu.asg (lk rfl)) rfl ?_
    refine Ops.nil ?_
    refine Then.next ?_
    refine Body.ret ?_
    refine Then.ret ?_
    exact ⟨.inr rfl, _, pk [0] rfl, za19, zm19, zc19, rfl, rfl⟩
  · have hb : baseC a r c = List.replicate q blankC := by
      unfold baseC
      rw [if_neg he, hq]; simp
    rw [hb, List.length_replicate]
    refine Body.seq ?_
    refine Body.region ?_
    refine Ops.s (Stp.box (lk rfl) rfl (fun b3 => ?_)) rfl
    refine Ops.u (Dtu.asg (lk rfl)) rfl ?_
    refine Ops.nil ?_
    refine Then.next ?_
    refine Body.seq ?_
    refine Body.seq ?_
    refine Body.region ?_
    refine Ops.u (Dtu.fld fa60_0 (lk rfl)) rfl ?_
    refine Ops.d (Det.ld Try.isAgg3 (lk rfl) (Rd.ow 0 rfl rfl)) rfl ?_
    refine Ops.u (Dtu.mv (lk rfl)) rfl ?_
    refine Ops.u (Dtu.eql (lk rfl) (lk rfl)) rfl ?_
    refine Ops.u (Dtu.mv (lk rfl)) rfl ?_
    refine Ops.decP 11 rfl (fun c11 => ?_) (fun c11 => ?_)
    · refine Ops.gu rfl rfl rfl (Dtu.fld fa60_1 (lk rfl)) rfl ?_
      refine Ops.gd rfl rfl rfl (Det.ld Try.isAgg3 (lk rfl) (Rd.ow 0 rfl rfl)) rfl ?_
      refine Ops.gu rfl rfl rfl (Dtu.mv (lk rfl)) rfl ?_
      refine Ops.gu rfl rfl rfl (Dtu.eql (lk rfl) (lk rfl)) rfl ?_
      refine Ops.u (Dtu.pickT (lk rfl) (lk rfl)) rfl ?_
      refine Ops.nil ?_
      refine Then.next ?_
      refine Body.condP (lk rfl) (fun hy => absurd hy (by first | omega | assumption | decide)) (fun _ => ?_)
      refine Body.skip ?_
      refine Then.next ?_
      refine Body.seq ?_
      refine Body.region ?_
      refine Ops.s (Stp.call rfl Try.call67 (lks rfl) (fun E' le hat => blank_ok E') ?_) rfl
      rintro _ _ ⟨rfl, rfl⟩
      refine Ops.s (Stp.buildSliceO Try.underlying58 ty127 (by decide) (by decide) (lkp rfl) rfl rfl rfl (by decide) (fun v21 => ?_)) rfl
      refine Ops.u (Dtu.mv (lk rfl)) rfl ?_
      refine Ops.u (Dtu.mv (lk rfl)) rfl ?_
      refine Ops.u (Dtu.mul (lk rfl) (lk rfl) (by with_reducible assumption)) rfl ?_
      refine Ops.s (Stp.call rfl Try.call111 (lks rfl) (fun E' le hat => hrep E' _ (Sl.at (hat _ (.head _)))) ?_) rfl
      rintro _ _ ⟨rfl, za25, zm25, zc25, rfl⟩
      refine Ops.u (Dtu.asg (lk rfl)) rfl ?_
      refine Ops.nil ?_
      refine Then.next ?_
      refine Body.ret ?_
      (exact ⟨.inr rfl, _, pk [0] rfl, za25, zm25, zc25, rfl, rfl⟩)
    · refine Ops.gn rfl rfl rfl rfl rfl ?_
      refine Ops.gn rfl rfl rfl rfl rfl ?_
      refine Ops.gn rfl rfl rfl rfl rfl ?_
      refine Ops.gn rfl rfl rfl rfl rfl ?_
      refine Ops.u (Dtu.pickF (lk rfl) (lk rfl)) rfl ?_
      refine Ops.nil ?_
      refine Then.next ?_
      refine Body.condF (lk rfl) ?_
      refine Body.skip ?_
      refine Then.next ?_
      refine Body.seq ?_
      refine Body.region ?_
      refine Ops.s (Stp.call rfl Try.call67 (lks rfl) (fun E' le hat => blank_ok E') ?_) rfl
      rintro _ _ ⟨rfl, rfl⟩
      refine Ops.s (Stp.buildSliceO Try.underlying58 ty127 (by decide) (by decide) (lkp rfl) rfl rfl rfl (by decide) (fun v21 => ?_)) rfl
      refine Ops.u (Dtu.mv (lk rfl)) rfl ?_
      refine Ops.u (Dtu.mv (lk rfl)) rfl ?_
      refine Ops.u (Dtu.mul (lk rfl) (lk rfl) (by with_reducible assumption)) rfl ?_
      refine Ops.s (Stp.call rfl Try.call111 (lks rfl) (fun E' le hat => hrep E' _ (Sl.at (hat _ (.head _)))) ?_) rfl
      rintro _ _ ⟨rfl, za25, zm25, zc25, rfl⟩
      refine Ops.u (Dtu.asg (lk rfl)) rfl ?_
      refine Ops.nil ?_
      refine Then.next ?_
      refine Body.ret ?_
      (exact ⟨.inr rfl, _, pk [0] rfl, za25, zm25, zc25, rfl, rfl⟩)
end Go.Proofs.Ytagcpamchgpgiaa
end
section
/- Patches: numbers' bytes, and the patch itself. -/
namespace Go.Proofs.Ytagcpamchgpgiaa
set_option maxRecDepth 100000
set_option linter.unusedVariables false
set_option linter.unusedSimpArgs false
open Go.Sx

theorem numbers_ok (E : Env) (s : Value) (xs : List Int) (h : Sl E [] 1 s xs.length (xs.map (.int .i64))) (hx : ∀ x ∈ xs, 0 ≤ x ∧ x < 4611686018427387904) (hn : xs.length ≤ 100) : Does Try.prog 95 #[s] E [] fun r H' => ∃ s', s' = r ∧ H' = [osl 5 1 s' (xs.flatMap putL).length ((xs.flatMap putL).map (.int .u8))] := by
  refine Does.pure h.len fun hlen => ?_
  refine Does.go (args := [s]) _ _ Try.func95 rfl Try.ntmps95 rfl rfl ?_
  refine Body.seq ?_
  refine Body.region ?_
  refine Ops.u (Dtu.asg (lk rfl)) rfl ?_
  refine Ops.nil ?_
  refine Then.next ?_
  refine Body.seq ?_
  refine Body.region ?_
  refine Ops.u (Dtu.asg (lk rfl)) rfl ?_
  refine Ops.nil ?_
  refine Then.next ?_
  refine Body.seq ?_
  refine Body.seq ?_
  refine Body.region ?_
  refine Ops.u (Dtu.mv (lk rfl)) rfl ?_
  refine Ops.u (Dtu.lenS Try.underlying179 (Sl.up h) (lk rfl)) rfl ?_
  refine Ops.u (Dtu.mv (lk rfl)) rfl ?_
  refine Ops.nil ?_
  refine Then.next ?_
  refine Body.block ?_
  refine Body.conseq (H' := [osl 5 1 (.slice none 0 0) 0 []]) (fun w s => osl_nil s) ?_
  refine Body.loopF (γ := Nat × Value) rfl (fun g => [(10, .int .i64 g.1), (3, g.2)]) (fun g => [osl 5 1 g.2 ((xs.take g.1).flatMap putL).length (((xs.take g.1).flatMap putL).map (.int .u8))]) (fun g => g.1 ≤ xs.length ∧ ((xs.take g.1).flatMap putL).length ≤ 8 * g.1) (fun g => xs.length - g.1) (0, .slice none 0 0) (by simp) ⟨rfl, rfl, trivial⟩ rfl ?_
  rintro ⟨i, O⟩ u ⟨hi, hb⟩
  dsimp only at hi hb ⊢
  refine Body.seq ?_
  refine Body.region ?_
  refine Ops.u (Dtu.lss (lk rfl) (lk rfl)) rfl ?_
  refine Ops.nil ?_
  refine Then.next ?_
  refine Body.seq ?_
  refine Body.condP (lk rfl) (fun c11 => ?_) (fun c11 => ?_)
  · obtain ⟨x0, x1⟩ := hx xs[i]! (by rw [getElem!_pos xs i (by omega)]; exact List.getElem_mem _)
    refine Body.skip ?_
    refine Then.next ?_
    refine Body.seq ?_
    refine Body.block ?_
    refine Body.seq ?_
    refine Body.region ?_
    refine Ops.u (Dtu.ix (i := (i)) Try.underlying179 Try.sizeOf3 (Sl.up h) (lk rfl) (lk rfl) (by omega) (by omega)) rfl ?_
    refine Ops.d (Det.ld Try.isAgg3 (lk rfl) (Rd.sl (Sl.up h) (gm (by omega)))) rfl ?_
    refine Ops.u (Dtu.asg (lk rfl)) rfl ?_
    refine Ops.nil ?_
    refine Then.next ?_
    refine Body.seq ?_
    refine Body.region ?_
    refine Ops.u (Dtu.mv (lk rfl)) rfl ?_
    refine Ops.u (Dtu.cvt Try.underlying3 Try.underlying22 (lk rfl) (wu64 (by omega) (by omega))) rfl ?_
    refine Ops.s (Stp.call rfl Try.call72 (lks rfl) (fun E' le hat => put_fine E' _ (by omega) (by omega)) ?_) rfl
    rintro _ _ ⟨s17, hz17, rfl, rfl⟩
    refine Ops.u (Dtu.mv (lk rfl)) rfl ?_
    refine Ops.u (Dtu.ext (lk rfl) rfl) rfl ?_
    refine Ops.u (Dtu.ext (lk rfl) rfl) rfl ?_
    refine Ops.u (Dtu.asg (lk rfl)) rfl ?_
    refine Ops.u (Dtu.asg (lk rfl)) rfl ?_
    refine Ops.nil ?_
    refine Then.next ?_
    refine Body.region ?_
    refine Ops.u (Dtu.mv (lk rfl)) rfl ?_
    refine Ops.u (Dtu.mv (lk rfl)) rfl ?_
    refine Ops.s (Stp.append 1 Try.underlying23 ty5 rfl rfl (lk rfl) (lk rfl) (Sl.osl 0 rfl) (by first | rfl | exact all_map (fun _ => rfl) _ | exact all_flat (fun _ => rfl) _) (by omega) (by omega) (fun v22 => ?_)) rfl
    refine Ops.u (Dtu.asg (lk rfl)) rfl ?_
    refine Ops.nil ?_
    refine Blk.norm ?_
    refine Then.next ?_
    refine Body.region ?_
    refine Ops.u (Dtu.add (lk rfl) (lk rfl) (w64 (by omega) (by omega))) rfl ?_
    refine Ops.u (Dtu.mv (lk rfl)) rfl ?_
    refine Ops.nil ?_
    have e : (xs.take (i + 1)).flatMap putL = (xs.take i).flatMap putL ++ putL xs[i]! := by rw [take_snoc (by omega), List.flatMap_append]; simp
    refine Round.goK [1] (i + 1, v22) rfl rfl rfl ⟨int_eq (by simp), rfl, trivial⟩ rfl ?_ ⟨by dsimp only; omega, ?_⟩ (by dsimp only; omega)
    · dsimp only
      rw [e]; simp [putL_len]
    · dsimp only
      rw [e, List.length_append, putL_len]; omega
  · obtain rfl : i = xs.length := by omega
    rw [List.take_length]
    refine Body.exit ?_
    refine Then.exit ?_
    refine Round.exit ?_
    refine Blk.here ?_
    refine Then.next ?_
    refine Body.seq ?_
    refine Body.region ?_
    refine Ops.u (Dtu.mv (lk rfl)) rfl ?_
    refine Ops.u (Dtu.asg (lk rfl)) rfl ?_
    refine Ops.nil ?_
    refine Then.next ?_
    refine Body.ret ?_
    exact ⟨.inr rfl, _, pk [0] rfl, O, rfl, rfl⟩
end Go.Proofs.Ytagcpamchgpgiaa
end
section
/- Patches: Diff. -/
namespace Go.Proofs.Ytagcpamchgpgiaa
set_option maxRecDepth 100000
set_option linter.unusedVariables false
set_option linter.unusedSimpArgs false
open Go.Sx

theorem take_snocD {α : Type} [Inhabited α] {l : List α} {i : Nat} (h : i < l.length) : l.take (i + 1) = l.take i ++ [l[i]!] := by
  rw [List.take_succ_eq_append_getElem h, getElem!_pos l i h]
theorem difR_eq {P : List (Cell × Cell)} {i k : Nat} (h : i < P.length) (e : P[i]!.1 = P[i]!.2) : difR k [] (P.drop i) = difR (k + 1) [] (P.drop (i + 1)) := by
  rw [getElem!_pos P i h] at e
  rw [List.drop_eq_getElem_cons h]
  generalize P[i] = p at e
  obtain ⟨x, y⟩ := p
  simp only [difR]
  rw [if_pos e]; simp
theorem difR_ne {P : List (Cell × Cell)} {i k : Nat} {run : List Cell} (h : i < P.length) (e : ¬ P[i]!.1 = P[i]!.2) : difR k run (P.drop i) = difR k (run ++ [P[i]!.2]) (P.drop (i + 1)) := by
  rw [getElem!_pos P i h] at e ⊢
  rw [List.drop_eq_getElem_cons h]
  generalize P[i] = p at e
  obtain ⟨x, y⟩ := p
  simp only [difR]
  rw [if_neg e]
theorem difR_end {P : List (Cell × Cell)} {i k : Nat} {run : List Cell} (hr : run ≠ []) (h : i < P.length → P[i]!.1 = P[i]!.2) : difR k run (P.drop i) = (k, run) :: difR 1 [] (P.drop (i + 1)) := by
  by_cases hi : i < P.length
  · have e := h hi
    rw [getElem!_pos P i hi] at e
    rw [List.drop_eq_getElem_cons hi]
    generalize P[i] = p at e
    obtain ⟨x, y⟩ := p
    simp only [difR]
    rw [if_pos e, if_neg hr]
  · rw [List.drop_eq_nil_of_le (by omega), List.drop_eq_nil_of_le (by omega)]
    simp [difR, hr]
theorem zip_at {xs ys : List Cell} (h : xs.length = ys.length) {i : Nat} (hi : i < ys.length) : (xs.zip ys)[i]!.1 = xs[i]! ∧ (xs.zip ys)[i]!.2 = ys[i]! := by
  rw [getElem!_pos (xs.zip ys) i (by simp; omega), getElem!_pos xs i (by omega), getElem!_pos ys i hi]
  simp
theorem run_snoc {ys : List Cell} {i t : Nat} (h : i ≤ t) (ht : t < ys.length) : (ys.drop i).take (t + 1 - i) = (ys.drop i).take (t - i) ++ [ys[t]!] := by
  rw [show t + 1 - i = (t - i) + 1 by omega, take_snocD (by simp; omega), getElem!_pos (ys.drop i) (t - i) (by simp; omega), getElem!_pos ys t ht]
  simp only [List.getElem_drop]
  have : i + (t - i) = t := by omega
  simp only [this]
theorem diff_no (E : Env) (a b : View) (s t : Value) (ha : a.has E [] s) (hb : b.has E [] t) (h : (a.ok && b.ok) = false) : Does Try.prog 70 #[a.val s, b.val t] E [] fun r H' => r = .tuple #[.slice none 0 0, .int .i64 3] ∧ H' = [] := by
  unfold View.has at ha hb
  refine Does.pure ha.isSl fun hs => ?_
  obtain ⟨sa, sm, sc, rfl⟩ := hs
  refine Does.pure hb.isSl fun hs => ?_
  obtain ⟨ta, tm, tc, rfl⟩ := hs
  refine Does.go (args := [a.val _, b.val _]) _ _ Try.func70 rfl Try.ntmps70 rfl rfl ?_
  cases hk : a.ok with
  | false =>
    refine Body.seq ?_
    refine Body.region ?_
    refine Ops.s (Stp.box (lk rfl) rfl (fun b2 => ?_)) rfl
    refine Ops.s (Stp.box (lk rfl) rfl (fun b3 => ?_)) rfl
    refine Ops.u (Dtu.asg (lk rfl)) rfl ?_
    refine Ops.u (Dtu.asg (lk rfl)) rfl ?_
    refine Ops.nil ?_
    refine Then.next ?_
    refine Body.seq ?_
    refine Body.seq ?_
    refine Body.region ?_
    refine Ops.d (Det.lda Try.isAgg60 Try.sizeOf60 (lk rfl) (Rds.ow (m := 6) 1 rfl rfl) rfl) rfl ?_
    refine Ops.s (Stp.call rfl Try.call62 (lks rfl) (fun E' le hat => right_ok E' ⟨_, _, _, _, _, _⟩ _ (Sl.mono (by assumption) le)) ?_) rfl
    rintro _ _ ⟨rfl, rfl⟩
    refine Ops.u (Dtu.not (lk rfl)) rfl ?_
    refine Ops.u (Dtu.mv (lk rfl)) rfl ?_
    refine Ops.dec 18 rfl (fun _ => ?_) (fun hn => absurd hn (by first | (rw [hk]; decide) | simp [hk]))
    refine Ops.gn rfl rfl rfl rfl rfl ?_
    refine Ops.gn rfl rfl rfl rfl rfl ?_
    refine Ops.gn rfl rfl rfl rfl rfl ?_
    refine Ops.u (Dtu.pickT (lk rfl) (lk rfl)) rfl ?_
    refine Ops.nil ?_
    refine Then.next ?_
    refine Body.condT (lk rfl) ?_
    refine Body.seq ?_
    refine Body.region ?_
    refine Ops.u (Dtu.asg (lk rfl)) rfl ?_
    refine Ops.u (Dtu.asg (lk rfl)) rfl ?_
    refine Ops.nil ?_
    refine Then.next ?_
    refine Body.ret ?_
    refine Then.ret ?_
    exact ⟨.inr rfl, _, pk [] rfl, rfl, rfl⟩
  | true =>
    have hk2 : b.ok = false := by simpa [hk] using h
    refine Body.seq ?_
    refine Body.region ?_
    refine Ops.s (Stp.box (lk rfl) rfl (fun b2 => ?_)) rfl
    refine Ops.s (Stp.box (lk rfl) rfl (fun b3 => ?_)) rfl
    refine Ops.u (Dtu.asg (lk rfl)) rfl ?_
    refine Ops.u (Dtu.asg (lk rfl)) rfl ?_
    refine Ops.nil ?_
    refine Then.next ?_
    refine Body.seq ?_
    refine Body.seq ?_
    refine Body.region ?_
    refine Ops.d (Det.lda Try.isAgg60 Try.sizeOf60 (lk rfl) (Rds.ow (m := 6) 1 rfl rfl) rfl) rfl ?_
    refine Ops.s (Stp.call rfl Try.call62 (lks rfl) (fun E' le hat => right_ok E' ⟨_, _, _, _, _, _⟩ _ (Sl.mono (by assumption) le)) ?_) rfl
    rintro _ _ ⟨rfl, rfl⟩
    refine Ops.u (Dtu.not (lk rfl)) rfl ?_
    refine Ops.u (Dtu.mv (lk rfl)) rfl ?_
    refine Ops.dec 18 rfl (fun hn => absurd hn (by first | (rw [hk]; decide) | simp [hk])) (fun _ => ?_)
    refine Ops.gd rfl rfl rfl (Det.lda Try.isAgg60 Try.sizeOf60 (lk rfl) (Rds.ow (m := 6) 0 rfl rfl) rfl) rfl ?_
    refine Ops.gs rfl rfl rfl (Stp.call rfl Try.call62 (lks rfl) (fun E' le hat => right_ok E' ⟨_, _, _, _, _, _⟩ _ (Sl.mono (by assumption) le)) ?_) rfl
    rintro _ _ ⟨rfl, rfl⟩
    refine Ops.gu rfl rfl rfl (Dtu.not (lk rfl)) rfl ?_
    refine Ops.u (Dtu.pickF (lk rfl) (lk rfl)) rfl ?_
    refine Ops.nil ?_
    refine Then.next ?_
    refine Body.cond (lk rfl) (fun _ => ?_) (fun hn => absurd hn (by first | (rw [hk2]; decide) | simp [hk2]))
    refine Body.seq ?_
    refine Body.region ?_
    refine Ops.u (Dtu.asg (lk rfl)) rfl ?_
    refine Ops.u (Dtu.asg (lk rfl)) rfl ?_
    refine Ops.nil ?_
    refine Then.next ?_
    refine Body.ret ?_
    refine Then.ret ?_
    exact ⟨.inr rfl, _, pk [] rfl, rfl, rfl⟩
end Go.Proofs.Ytagcpamchgpgiaa
end
section
/- Patches: Diff of views that may be. -/
namespace Go.Proofs.Ytagcpamchgpgiaa
set_option maxRecDepth 100000
set_option linter.unusedVariables false
set_option linter.unusedSimpArgs false
open Go.Sx

set_option maxHeartbeats 3200000 in
theorem diff_ok (E : Env) (a b : View) (s t : Value) (ha : a.has E [] s) (hb : b.has E [] t) (ka : a.ok = true) (kb : b.ok = true) : Does Try.prog 70 #[a.val s, b.val t] E [] fun r H' => ∃ s', r = .tuple #[s', .int .i64 0] ∧ H' = [osl 5 1 s' (difB a b).length ((difB a b).map (.int .u8))] := by
  unfold View.has at ha hb
  obtain ⟨fa, oa⟩ := View.ok_fits ka
  obtain ⟨fb, ob⟩ := View.ok_fits kb
  have hma := mul_bound fa.1
  have hla : a.cells.length ≤ 480 := by have := fa.2.2.2.2.2; omega
  obtain ⟨hrc, f1, f2, f3, f4, f5⟩ := fb
  have hmb := mul_bound hrc
  refine Does.pure ha.isSl fun hs => ?_
  obtain ⟨sa, sm, sc, rfl⟩ := hs
  refine Does.pure hb.isSl fun hs => ?_
  obtain ⟨ta, tm, tc, rfl⟩ := hs
  have hbl : (baseC a b.rows b.cols).length = b.cells.length := by
    unfold baseC
    split
    · rename_i h; have := fa.2.2.2.2.2; rw [h.1, h.2] at this; omega
    · rw [List.length_replicate]; omega
  have hbase := fun (E' : Env) (le : Env.Le E E') => base_ok E' a (.slice sa sm sc) b.rows b.cols (Sl.mono ha le) hla (by omega)
  have hD : difB a b = b.head ++ (difR 0 [] ((baseC a b.rows b.cols).zip b.cells)).flatMap encR := rfl
  generalize difB a b = D at *
  generalize hbc : baseC a b.rows b.cols = bc at *
  refine Does.go (args := [a.val _, b.val _]) _ _ Try.func70 rfl Try.ntmps70 rfl rfl ?_
  refine Body.seq ?_
  refine Body.region ?_
  refine Ops.s (Stp.box (lk rfl) rfl (fun b2 => ?_)) rfl
  refine Ops.s (Stp.box (lk rfl) rfl (fun b3 => ?_)) rfl
  refine Ops.u (Dtu.asg (lk rfl)) rfl ?_
  refine Ops.u (Dtu.asg (lk rfl)) rfl ?_
  refine Ops.nil ?_
  refine Then.next ?_
  refine Body.seq ?_
  refine Body.seq ?_
  refine Body.region ?_
  refine Ops.d (Det.lda Try.isAgg60 Try.sizeOf60 (lk rfl) (Rds.ow (m := 6) 1 rfl rfl) rfl) rfl ?_
  refine Ops.s (Stp.call rfl Try.call62 (lks rfl) (fun E' le hat => right_ok E' ⟨_, _, _, _, _, _⟩ _ (Sl.mono (by assumption) le)) ?_) rfl
  rintro _ _ ⟨rfl, rfl⟩
  refine Ops.u (Dtu.not (lk rfl)) rfl ?_
  refine Ops.u (Dtu.mv (lk rfl)) rfl ?_
  refine Ops.dec 18 rfl (fun hn => absurd hn (by first | (rw [ka]; decide) | simp [ka])) (fun _ => ?_)
  refine Ops.gd rfl rfl rfl (Det.lda Try.isAgg60 Try.sizeOf60 (lk rfl) (Rds.ow (m := 6) 0 rfl rfl) rfl) rfl ?_
  refine Ops.gs rfl rfl rfl (Stp.call rfl Try.call62 (lks rfl) (fun E' le hat => right_ok E' ⟨_, _, _, _, _, _⟩ _ (Sl.mono (by assumption) le)) ?_) rfl
  rintro _ _ ⟨rfl, rfl⟩
  refine Ops.gu rfl rfl rfl (Dtu.not (lk rfl)) rfl ?_
  refine Ops.u (Dtu.pickF (lk rfl) (lk rfl)) rfl ?_
  refine Ops.nil ?_
  refine Then.next ?_
  refine Body.cond (lk rfl) (fun hn => absurd hn (by first | (rw [kb]; decide) | simp [kb])) (fun _ => ?_)
  refine Body.skip ?_
  refine Then.next ?_
  refine Body.seq ?_
  refine Body.region ?_
  refine Ops.u (Dtu.fld fa60_0 (lk rfl)) rfl ?_
  refine Ops.d (Det.ld Try.isAgg3 (lk rfl) (Rd.ow 0 rfl rfl)) rfl ?_
  refine Ops.u (Dtu.cvt Try.underlying3 Try.underlying5 (lk rfl) (wu8 (by omega) (by omega))) rfl ?_
  refine Ops.u (Dtu.fld fa60_1 (lk rfl)) rfl ?_
  refine Ops.d (Det.ld Try.isAgg3 (lk rfl) (Rd.ow 0 rfl rfl)) rfl ?_
  refine Ops.u (Dtu.cvt Try.underlying3 Try.underlying5 (lk rfl) (wu8 (by omega) (by omega))) rfl ?_
  refine Ops.u (Dtu.fld fa60_3 (lk rfl)) rfl ?_
  refine Ops.d (Det.ld Try.isAgg3 (lk rfl) (Rd.ow 0 rfl rfl)) rfl ?_
  refine Ops.u (Dtu.cvt Try.underlying3 Try.underlying5 (lk rfl) (wu8 (by omega) (by omega))) rfl ?_
  refine Ops.u (Dtu.fld fa60_4 (lk rfl)) rfl ?_
  refine Ops.d (Det.ld Try.isAgg3 (lk rfl) (Rd.ow 0 rfl rfl)) rfl ?_
  refine Ops.u (Dtu.cvt Try.underlying3 Try.underlying5 (lk rfl) (wu8 (by omega) (by omega))) rfl ?_
  refine Ops.s (Stp.buildSliceO Try.underlying23 ty5 (by decide) (by decide) (lkp rfl) rfl rfl rfl (by decide) (fun v35 => ?_)) rfl
  refine Ops.u (Dtu.asg (lk rfl)) rfl ?_
  refine Ops.nil ?_
  refine Then.next ?_
  refine Body.seqJ (γ := Unit) rfl (fun _ => [(6, v35)]) (fun _ => [osl 5 1 v35 5 (b.head.map (.int .u8)), own b3 [.int .i64 b.rows, .int .i64 b.cols, .slice ta tm tc, .int .i64 b.row, .int .i64 b.col, .bool b.vis] 60, own b2 [.int .i64 a.rows, .int .i64 a.cols, .slice sa sm sc, .int .i64 a.row, .int .i64 a.col, .bool a.vis] 60]) (fun _ => True) ?_ ?_
  · refine Body.seq ?_
    refine Body.region ?_
    refine Ops.u (Dtu.fld fa60_5 (lk rfl)) rfl ?_
    refine Ops.d (Det.ld Try.isAgg4 (lk rfl) (Rd.ow 1 rfl rfl)) rfl ?_
    refine Ops.nil ?_
    refine Then.next ?_
    refine Body.cond (lk rfl) (fun c37 => ?_) (fun c37 => ?_)
    · refine Body.region ?_
      refine Ops.u (Dtu.mv (lk rfl)) rfl ?_
      refine Ops.u (Dtu.ix (i := 4) Try.underlying23 Try.sizeOf5 (Sl.osl 0 rfl) (lk rfl) (lk rfl) (by omega) (by omega)) rfl ?_
      refine Ops.e (Stp.storeS 0 (us := [_]) Try.sizeOf5 rfl (lk rfl) (lk rfl) rfl (by simp <;> omega) (by simp) rfl ?_)
      refine Ops.nil ?_
      exact Joint.goK [0, 0, 0] () rfl rfl rfl ⟨rfl, trivial⟩ rfl (by simp [View.head, c37]) trivial
    · refine Body.skip ?_
      exact Joint.goK [0, 0, 0] () rfl rfl rfl ⟨rfl, trivial⟩ rfl (by simp [View.head, c37]) trivial
  · intro _ u _
    have hb0 : b.head.length = 5 := rfl
    refine Body.seq ?_
    refine Body.region ?_
    refine Ops.d (Det.lda Try.isAgg60 Try.sizeOf60 (lk rfl) (Rds.ow (m := 6) 2 rfl rfl) rfl) rfl ?_
    refine Ops.u (Dtu.fld fa60_0 (lk rfl)) rfl ?_
    refine Ops.d (Det.ld Try.isAgg3 (lk rfl) (Rd.ow 1 rfl rfl)) rfl ?_
    refine Ops.u (Dtu.fld fa60_1 (lk rfl)) rfl ?_
    refine Ops.d (Det.ld Try.isAgg3 (lk rfl) (Rd.ow 1 rfl rfl)) rfl ?_
    refine Ops.s (Stp.call rfl Try.call94 (lks rfl) (fun E' le hat => hbase E' le) ?_) rfl
    rintro _ _ ⟨wa, wm, wc, rfl, rfl⟩
    refine Ops.u (Dtu.asg (lk rfl)) rfl ?_
    refine Ops.nil ?_
    refine Then.next ?_
    refine Body.seq ?_
    refine Body.region ?_
    refine Ops.u (Dtu.asg (lk rfl)) rfl ?_
    refine Ops.nil ?_
    refine Then.next ?_
    refine Body.seq ?_
    refine Body.seq ?_
    refine Body.region ?_
    refine Ops.u (Dtu.asg (lk rfl)) rfl ?_
    refine Ops.nil ?_
    refine Then.next ?_
    refine Body.block ?_
    have hP : (bc.zip b.cells).length = b.cells.length := by simp [hbl]
    have hPi : ∀ i, i < b.cells.length → (bc.zip b.cells)[i]!.1 = bc[i]! ∧ (bc.zip b.cells)[i]!.2 = b.cells[i]! := fun i hi => zip_at hbl hi
    generalize bc.zip b.cells = P at *
    generalize hys : b.cells = ys at *
    refine Body.loopF (γ := Nat × Nat × Value × List Int) rfl (fun g => [(9, .int .i64 g.1), (8, .int .i64 g.2.1), (6, g.2.2.1)])
      (fun g => [osl 127 4 (.slice wa wm wc) bc.length (bc.flatMap Cell.enc), osl 5 1 g.2.2.1 g.2.2.2.length (g.2.2.2.map (.int .u8)), own b3 [.int .i64 b.rows, .int .i64 b.cols, .slice ta tm tc, .int .i64 b.row, .int .i64 b.col, .bool b.vis] 60, own b2 [.int .i64 a.rows, .int .i64 a.cols, .slice sa sm sc, .int .i64 a.row, .int .i64 a.col, .bool a.vis] 60])
      (fun g => g.1 ≤ ys.length + 1 ∧ g.2.1 ≤ g.1 ∧ g.2.2.2 ++ (difR (g.1 - g.2.1) [] (P.drop g.1)).flatMap encR = D ∧ g.2.2.2.length ≤ 5 + 41 * g.1) (fun g => ys.length + 1 - g.1) (0, 0, v35, b.head) ⟨by simp, by simp, by simp [hD], by simp [hb0]⟩ ⟨rfl, rfl, rfl, trivial⟩ rfl ?_
    rintro ⟨i, l, O, bs⟩ u ⟨hi, hl, hbs, hn⟩
    dsimp only at hi hl hbs hn ⊢
    refine Body.seq ?_
    refine Body.seq ?_
    refine Body.region ?_
    refine Ops.u (Dtu.mv (lk rfl)) rfl ?_
    refine Ops.u (Dtu.mv (lk rfl)) rfl ?_
    refine Ops.u (Dtu.lenS Try.underlying58 (Sl.osl 0 rfl) (lk rfl)) rfl ?_
    refine Ops.u (Dtu.lss (lk rfl) (lk rfl)) rfl ?_
    refine Ops.nil ?_
    refine Then.next ?_
    refine Body.condP (lk rfl) (fun c49 => ?_) (fun c49 => ?_)
    · obtain ⟨p1, p2⟩ := hPi i (by omega)
      refine Body.skip ?_
      refine Then.next ?_
      refine Body.seq ?_
      refine Body.block ?_
      refine Body.seq ?_
      refine Body.seq ?_
      refine Body.draw mixed ?_
      refine AB.u 0 rfl (by decide +kernel) (Dtu.mv (lk rfl)) rfl ?_
      refine AB.u 1 rfl (by decide +kernel) (Dtu.mv (lk rfl)) rfl ?_
      refine AB.u 2 rfl (by decide +kernel) (Dtu.ix (i := (i)) Try.underlying58 Try.sizeOf127 (Sl.osl 0 rfl) (lk rfl) (lk rfl) (by omega) (by omega)) rfl ?_
      refine AB.d 3 rfl (by decide +kernel) rfl (Det.lda Try.isAgg127 Try.sizeOf127 (lk rfl) (Rds.sl (Sl.osl 0 rfl) (gf (sz := 4) (fun _ => rfl) (by omega))) rfl) rfl ?_
      refine AB.u 4 rfl (by decide +kernel) (Dtu.fld fa60_2 (lk rfl)) rfl ?_
      refine AB.d 5 rfl (by decide +kernel) rfl (Det.ld Try.isAgg58 (lk rfl) (Rd.ow 2 rfl rfl)) rfl ?_
      refine AB.u 6 rfl (by decide +kernel) (Dtu.mv (lk rfl)) rfl ?_
      refine AB.u 7 rfl (by decide +kernel) (Dtu.ix (i := (i)) Try.underlying58 Try.sizeOf127 (Sl.up hb) (lk rfl) (lk rfl) (by omega) (by omega)) rfl ?_
      refine AB.d 8 rfl (by decide +kernel) rfl (Det.lda Try.isAgg127 Try.sizeOf127 (lk rfl) (Rds.sl (Sl.up hb) (gf (sz := 4) (fun _ => rfl) (by omega))) rfl) rfl ?_
      refine AB.u 9 rfl (by decide +kernel) (Dtu.eqS eqGuard127 (eq127 _ _) (lk rfl) (lk rfl)) rfl ?_
      refine AB.done (by decide +kernel) ?_
      refine Then.next ?_
      refine Body.condP (lk rfl) (fun c61 => ?_) (fun c61 => ?_)
      · refine Body.exit ?_
        refine Then.exit ?_
        refine Blk.here ?_
        refine Then.next ?_
        refine Body.region ?_
        refine Ops.u (Dtu.mv (lk rfl)) rfl ?_
        refine Ops.u (Dtu.add (lk rfl) (lk rfl) (w64 (by omega) (by omega))) rfl ?_
        refine Ops.u (Dtu.asg (lk rfl)) rfl ?_
        refine Ops.nil ?_
        refine Round.goK [0, 0, 0, 0] (i + 1, l, O, bs) rfl rfl rfl ⟨int_eq (by simp), rfl, rfl, trivial⟩ rfl rfl ⟨by dsimp only; omega, by dsimp only; omega, ?_, by dsimp only; omega⟩ (by dsimp only; omega)
        dsimp only
        rw [← hbs, difR_eq (P := P) (i := i) (by omega) (by rw [p1, p2]; simpa using c61), show i + 1 - l = i - l + 1 by omega]
      · have hne : ¬ P[i]!.1 = P[i]!.2 := by rw [p1, p2]; simpa using c61
        refine Body.skip ?_
        refine Then.next ?_
        refine Body.seq ?_
        refine Body.region ?_
        refine Ops.u (Dtu.mv (lk rfl)) rfl ?_
        refine Ops.u (Dtu.asg (lk rfl)) rfl ?_
        refine Ops.nil ?_
        refine Then.next ?_
        refine Body.seqJ (γ := Nat) rfl (fun g => [(10, .int .i64 g)]) (fun _ => [osl 127 4 (.slice wa wm wc) bc.length (bc.flatMap Cell.enc), osl 5 1 O bs.length (bs.map (.int .u8)), own b3 [.int .i64 b.rows, .int .i64 b.cols, .slice ta tm tc, .int .i64 b.row, .int .i64 b.col, .bool b.vis] 60, own b2 [.int .i64 a.rows, .int .i64 a.cols, .slice sa sm sc, .int .i64 a.row, .int .i64 a.col, .bool a.vis] 60])
          (fun g => i < g ∧ g ≤ ys.length ∧ difR (i - l) [] (P.drop i) = (i - l, (ys.drop i).take (g - i)) :: difR 1 [] (P.drop (g + 1))) ?_ ?_
        · refine Body.block ?_
          refine Body.loopF (γ := Nat) rfl (fun g => [(10, .int .i64 g)]) (fun _ => [osl 127 4 (.slice wa wm wc) bc.length (bc.flatMap Cell.enc), osl 5 1 O bs.length (bs.map (.int .u8)), own b3 [.int .i64 b.rows, .int .i64 b.cols, .slice ta tm tc, .int .i64 b.row, .int .i64 b.col, .bool b.vis] 60, own b2 [.int .i64 a.rows, .int .i64 a.cols, .slice sa sm sc, .int .i64 a.row, .int .i64 a.col, .bool a.vis] 60])
            (fun g => i ≤ g ∧ g ≤ ys.length ∧ difR (i - l) [] (P.drop i) = difR (i - l) ((ys.drop i).take (g - i)) (P.drop g)) (fun g => ys.length - g) i ⟨by omega, by omega, by simp⟩ ⟨rfl, trivial⟩ rfl ?_
          rintro q u2 ⟨hq, hqn, hr⟩
          refine Body.seq ?_
          refine Body.seq ?_
          refine Body.draw mixed ?_
          refine AB.u 0 rfl (by decide +kernel) (Dtu.mv (lk rfl)) rfl ?_
          refine AB.u 1 rfl (by decide +kernel) (Dtu.mv (lk rfl)) rfl ?_
          refine AB.u 2 rfl (by decide +kernel) (Dtu.lenS Try.underlying58 (Sl.osl 0 rfl) (lk rfl)) rfl ?_
          refine AB.u 3 rfl (by decide +kernel) (Dtu.lss (lk rfl) (lk rfl)) rfl ?_
          refine AB.u 4 rfl (by decide +kernel) (Dtu.mv (lk rfl)) rfl ?_
          refine AB.decP 67 rfl (fun c67 => ?_) (fun c67 => ?_)
          · obtain ⟨p3, p4⟩ := hPi q (by omega)
            refine AB.gu 5 rfl (by decide +kernel) rfl rfl rfl (Dtu.mv (lk rfl)) rfl ?_
            refine AB.gu 6 rfl (by decide +kernel) rfl rfl rfl (Dtu.mv (lk rfl)) rfl ?_
            refine AB.gu 7 rfl (by decide +kernel) rfl rfl rfl (Dtu.ix (i := (q)) Try.underlying58 Try.sizeOf127 (Sl.osl 0 rfl) (lk rfl) (lk rfl) (by omega) (by omega)) rfl ?_
            refine AB.gd 8 rfl (by decide +kernel) rfl rfl rfl rfl (Det.lda Try.isAgg127 Try.sizeOf127 (lk rfl) (Rds.sl (Sl.osl 0 rfl) (gf (sz := 4) (fun _ => rfl) (by omega))) rfl) rfl ?_
            refine AB.gu 9 rfl (by decide +kernel) rfl rfl rfl (Dtu.fld fa60_2 (lk rfl)) rfl ?_
            refine AB.gd 10 rfl (by decide +kernel) rfl rfl rfl rfl (Det.ld Try.isAgg58 (lk rfl) (Rd.ow 2 rfl rfl)) rfl ?_
            refine AB.gu 11 rfl (by decide +kernel) rfl rfl rfl (Dtu.mv (lk rfl)) rfl ?_
            refine AB.gu 12 rfl (by decide +kernel) rfl rfl rfl (Dtu.ix (i := (q)) Try.underlying58 Try.sizeOf127 (Sl.up hb) (lk rfl) (lk rfl) (by omega) (by omega)) rfl ?_
            refine AB.gd 13 rfl (by decide +kernel) rfl rfl rfl rfl (Det.lda Try.isAgg127 Try.sizeOf127 (lk rfl) (Rds.sl (Sl.up hb) (gf (sz := 4) (fun _ => rfl) (by omega))) rfl) rfl ?_
            refine AB.gu 14 rfl (by decide +kernel) rfl rfl rfl (Dtu.neS eqGuard127 (eq127 _ _) (lk rfl) (lk rfl)) rfl ?_
            refine AB.u 15 rfl (by decide +kernel) (Dtu.pickT (lk rfl) (lk rfl)) rfl ?_
            refine AB.done (by decide +kernel) ?_
            refine Then.next ?_
            refine Body.cond (lk rfl) (fun c78 => ?_) (fun c78 => ?_)
            · refine Body.skip ?_
              refine Then.next ?_
              refine Body.block ?_
              refine Body.region ?_
              refine Ops.u (Dtu.mv (lk rfl)) rfl ?_
              refine Ops.u (Dtu.add (lk rfl) (lk rfl) (w64 (by omega) (by omega))) rfl ?_
              refine Ops.u (Dtu.asg (lk rfl)) rfl ?_
              refine Ops.nil ?_
              refine Blk.norm ?_
              have hne2 : ¬ P[q]!.1 = P[q]!.2 := by rw [p3, p4]; simpa using c78
              refine Round.goF (q + 1) rfl rfl rfl ⟨int_eq (by simp), trivial⟩ rfl ⟨by omega, by omega, ?_⟩ (by omega)
              rw [hr, difR_ne (P := P) (i := q) (by omega) hne2, p4, run_snoc hq (by omega)]
            · refine Body.exit ?_
              refine Then.exit ?_
              refine Round.exit ?_
              refine Blk.here ?_
              have heq2 : P[q]!.1 = P[q]!.2 := by rw [p3, p4]; simpa using c78
              have hiq : i < q := by
                rcases Nat.lt_or_eq_of_le hq with h | h
                · exact h
                · subst h; exact absurd heq2 hne
              refine Joint.goK [0, 0, 0, 0] q rfl rfl rfl ⟨rfl, trivial⟩ rfl rfl ⟨hiq, hqn, ?_⟩
              rw [hr, difR_end (P := P) (i := q) (fun h => by have := congrArg List.length h; simp at this; omega) (fun _ => heq2)]
          · refine AB.gn 5 rfl (by decide +kernel) rfl rfl rfl rfl rfl ?_
            refine AB.gn 6 rfl (by decide +kernel) rfl rfl rfl rfl rfl ?_
            refine AB.gn 7 rfl (by decide +kernel) rfl rfl rfl rfl rfl ?_
            refine AB.gn 8 rfl (by decide +kernel) rfl rfl rfl rfl rfl ?_
            refine AB.gn 9 rfl (by decide +kernel) rfl rfl rfl rfl rfl ?_
            refine AB.gn 10 rfl (by decide +kernel) rfl rfl rfl rfl rfl ?_
            refine AB.gn 11 rfl (by decide +kernel) rfl rfl rfl rfl rfl ?_
            refine AB.gn 12 rfl (by decide +kernel) rfl rfl rfl rfl rfl ?_
            refine AB.gn 13 rfl (by decide +kernel) rfl rfl rfl rfl rfl ?_
            refine AB.gn 14 rfl (by decide +kernel) rfl rfl rfl rfl rfl ?_
            refine AB.u 15 rfl (by decide +kernel) (Dtu.pickF (lk rfl) (lk rfl)) rfl ?_
            refine AB.done (by decide +kernel) ?_
            refine Then.next ?_
            refine Body.condF (lk rfl) ?_
            refine Body.exit ?_
            refine Then.exit ?_
            refine Round.exit ?_
            refine Blk.here ?_
            have hiq : i < q := by omega
            refine Joint.goK [0, 0, 0, 0] q rfl rfl rfl ⟨rfl, trivial⟩ rfl rfl ⟨hiq, hqn, ?_⟩
            rw [hr, difR_end (P := P) (i := q) (fun h => by have := congrArg List.length h; simp at this; omega) (fun h => by omega)]
        · rintro q u2 ⟨hq, hqn, hr⟩
          have hz1 := sizeS_le ((i : Int) - l)
          have hz2 := sizeS_le ((q : Int) - i)
          have hnum : ∀ E' v, Sl E' [] 1 v 2 [.int .i64 ((i : Int) - l), .int .i64 ((q : Int) - i)] → Does Try.prog 95 #[v] E' [] fun r H' => ∃ s', s' = r ∧ H' = [osl 5 1 s' ([(i : Int) - l, (q : Int) - i].flatMap putL).length (([(i : Int) - l, (q : Int) - i].flatMap putL).map (.int .u8))] :=
            fun E' v h => numbers_ok E' v [(i : Int) - l, (q : Int) - i] h (by simp; omega) (by simp)
          have hN : [(i : Int) - l, (q : Int) - i].flatMap putL = putL ((i - l : Nat) : Int) ++ putL ((q - i : Nat) : Int) := by
            rw [show ((i - l : Nat) : Int) = (i : Int) - l by omega, show ((q - i : Nat) : Int) = (q : Int) - i by omega]; simp
          have hNl : ([(i : Int) - l, (q : Int) - i].flatMap putL).length ≤ 16 := by simp [putL_len]; omega
          generalize [(i : Int) - l, (q : Int) - i].flatMap putL = N at *
          have hs5 := Sl.subF (enc := Cell.enc) (sz := 4) (fun c => rfl) hb i q (by omega) hqn
          have hrl : ((ys.drop i).take (q - i)).length = q - i := by simp; omega
          have hrok : ∀ c ∈ (ys.drop i).take (q - i), c.ok = true := fun c hc => ob c (List.mem_of_mem_drop (List.mem_of_mem_take hc))
          generalize (ys.drop i).take (q - i) = R at *
          refine Body.seq ?_
          refine Body.region ?_
          refine Ops.u (Dtu.mv (lk rfl)) rfl ?_
          refine Ops.u (Dtu.mv (lk rfl)) rfl ?_
          refine Ops.u (Dtu.mv (lk rfl)) rfl ?_
          refine Ops.u (Dtu.sub (lk rfl) (lk rfl) (w64 (by omega) (by omega))) rfl ?_
          refine Ops.u (Dtu.mv (lk rfl)) rfl ?_
          refine Ops.u (Dtu.mv (lk rfl)) rfl ?_
          refine Ops.u (Dtu.sub (lk rfl) (lk rfl) (w64 (by omega) (by omega))) rfl ?_
          refine Ops.s (Stp.buildSliceO Try.underlying179 ty3 (by decide) (by decide) (lkp rfl) rfl rfl rfl (by decide) (fun v88 => ?_)) rfl
          refine Ops.s (Stp.call rfl Try.call95 (lks rfl) (fun E' le hat => hnum E' _ (Sl.at (hat _ (.head _)))) ?_) rfl
          rintro _ _ ⟨n89, rfl, rfl⟩
          refine Ops.s (Stp.append 3 Try.underlying23 ty5 rfl rfl (lk rfl) (lk rfl) (Sl.osl 0 rfl) (by first | rfl | exact all_map (fun _ => rfl) _ | exact all_flat (fun _ => rfl) _) (by omega) (by omega) (fun v90 => ?_)) rfl
          refine Ops.u (Dtu.asg (lk rfl)) rfl ?_
          refine Ops.nil ?_
          refine Then.next ?_
          refine Body.seq ?_
          refine Body.seq ?_
          refine Body.region ?_
          refine Ops.u (Dtu.fld fa60_2 (lk rfl)) rfl ?_
          refine Ops.d (Det.ld Try.isAgg58 (lk rfl) (Rd.ow 4 rfl rfl)) rfl ?_
          refine Ops.u (Dtu.mv (lk rfl)) rfl ?_
          refine Ops.u (Dtu.mv (lk rfl)) rfl ?_
          refine Ops.u (Dtu.slLH (i) (q) Try.underlying58 Try.sizeOf127 (Sl.up hb) (lk rfl) (lk rfl) (lk rfl) (by omega) (by omega) (by omega) (by omega)) rfl ?_
          refine Ops.u (Dtu.lenS Try.underlying58 (Sl.up hs5) (lk rfl)) rfl ?_
          refine Ops.u (Dtu.mv (lk rfl)) rfl ?_
          refine Ops.nil ?_
          refine Then.next ?_
          refine Body.block ?_
          refine Body.loopF (γ := Nat × Value × List Int) rfl (fun g => [(97, .int .i64 g.1), (6, g.2.1)])
            (fun g => [osl 5 1 n89 N.length (N.map (.int .u8)), osl 3 1 v88 2 [.int .i64 ((i : Int) - l), .int .i64 ((q : Int) - i)], osl 127 4 (.slice wa wm wc) bc.length (bc.flatMap Cell.enc), osl 5 1 g.2.1 g.2.2.length (g.2.2.map (.int .u8)), own b3 [.int .i64 b.rows, .int .i64 b.cols, .slice ta tm tc, .int .i64 b.row, .int .i64 b.col, .bool b.vis] 60, own b2 [.int .i64 a.rows, .int .i64 a.cols, .slice sa sm sc, .int .i64 a.row, .int .i64 a.col, .bool a.vis] 60])
            (fun g => g.1 ≤ q - i ∧ g.2.2 = bs ++ N ++ (R.take g.1).flatMap Cell.bytes ∧ g.2.2.length ≤ 21 + 41 * i + 25 * g.1) (fun g => q - i - g.1) (0, v90, bs ++ N) ⟨by simp, by simp, by simp; omega⟩ ⟨rfl, rfl, trivial⟩ (by simp) ?_
          rintro ⟨j, O2, bs2⟩ u3 ⟨hj, he, hl2⟩
          dsimp only at hj he hl2 ⊢
          refine Body.seq ?_
          refine Body.region ?_
          refine Ops.u (Dtu.lss (lk rfl) (lk rfl)) rfl ?_
          refine Ops.nil ?_
          refine Then.next ?_
          refine Body.seq ?_
          refine Body.condP (lk rfl) (fun c98 => ?_) (fun c98 => ?_)
          · have hcok : R[j]!.ok = true := by rw [getElem!_pos R j (by omega)]; exact hrok _ (List.getElem_mem _)
            have hbl := Cell.bytes_len R[j]!
            refine Body.skip ?_
            refine Then.next ?_
            refine Body.seq ?_
            refine Body.block ?_
            refine Body.seq ?_
            refine Body.region ?_
            refine Ops.u (Dtu.ix (i := (j)) Try.underlying58 Try.sizeOf127 (Sl.up hs5) (lk rfl) (lk rfl) (by omega) (by omega)) rfl ?_
            refine Ops.d (Det.lda Try.isAgg127 Try.sizeOf127 (lk rfl) (Rds.sl (Sl.up hs5) (gf (sz := 4) (fun _ => rfl) (by omega))) rfl) rfl ?_
            refine Ops.s (Stp.alloc ty127 (fun b12 => ?_)) rfl
            refine Ops.e (Stp.store 0 Try.sizeOf127 (lk rfl) (lk rfl) rfl rfl rfl rfl rfl rfl rfl ?_)
            refine Ops.nil ?_
            refine Then.next ?_
            refine Body.seq ?_
            refine Body.region ?_
            refine Ops.d (Det.lda Try.isAgg127 Try.sizeOf127 (lk rfl) (Rds.ow (m := 4) 0 rfl rfl) rfl) rfl ?_
            refine Ops.s (Stp.call rfl Try.call96 (lks rfl) (fun E' le hat => putCell_ok E' _ (by assumption)) ?_) rfl
            rintro _ _ ⟨s103, hz103, rfl, rfl⟩
            refine Ops.u (Dtu.mv (lk rfl)) rfl ?_
            refine Ops.u (Dtu.ext (lk rfl) rfl) rfl ?_
            refine Ops.u (Dtu.ext (lk rfl) rfl) rfl ?_
            refine Ops.u (Dtu.asg (lk rfl)) rfl ?_
            refine Ops.u (Dtu.asg (lk rfl)) rfl ?_
            refine Ops.nil ?_
            refine Then.next ?_
            refine Body.seq ?_
            refine Body.seq ?_
            refine Body.region ?_
            refine Ops.u (Dtu.mv (lk rfl)) rfl ?_
            refine Ops.u (Dtu.neq (lk rfl) (lk rfl)) rfl ?_
            refine Ops.nil ?_
            refine Then.next ?_
            refine Body.condP (lk rfl) (fun hy => absurd hy (by first | omega | assumption | decide)) (fun _ => ?_)
            refine Body.skip ?_
            refine Then.next ?_
            refine Body.region ?_
            refine Ops.u (Dtu.mv (lk rfl)) rfl ?_
            refine Ops.u (Dtu.mv (lk rfl)) rfl ?_
            refine Ops.s (Stp.append 5 Try.underlying23 ty5 rfl rfl (lk rfl) (lk rfl) (Sl.osl 0 rfl) (by first | rfl | exact all_map (fun _ => rfl) _ | exact all_flat (fun _ => rfl) _) (by omega) (by omega) (fun v111 => ?_)) rfl
            refine Ops.u (Dtu.asg (lk rfl)) rfl ?_
            refine Ops.nil ?_
            refine Blk.norm ?_
            refine Then.next ?_
            refine Body.region ?_
            refine Ops.u (Dtu.add (lk rfl) (lk rfl) (w64 (by omega) (by omega))) rfl ?_
            refine Ops.u (Dtu.mv (lk rfl)) rfl ?_
            refine Ops.nil ?_
            refine Round.goK [2, 2, 2, 2, 2, 2] (j + 1, v111, bs2 ++ R[j]!.bytes) rfl rfl rfl ⟨int_eq (by simp), rfl, trivial⟩ rfl ?_ ⟨by dsimp only; omega, ?_, ?_⟩ (by dsimp only; omega)
            · simp [Cell.bytes_len]
            · dsimp only
              rw [he, take_snocD (by omega), List.flatMap_append]; simp
            · have := Cell.size_13 hcok
              simp only [List.length_append]; omega
          · obtain rfl : j = q - i := by omega
            have hT : R.take (q - i) = R := List.take_of_length_le (by omega)
            rw [hT] at he
            refine Body.exit ?_
            refine Then.exit ?_
            refine Round.exit ?_
            refine Blk.here ?_
            refine Then.next ?_
            refine Body.region ?_
            refine Ops.u (Dtu.mv (lk rfl)) rfl ?_
            refine Ops.u (Dtu.mv (lk rfl)) rfl ?_
            refine Ops.u (Dtu.asg (lk rfl)) rfl ?_
            refine Ops.u (Dtu.asg (lk rfl)) rfl ?_
            refine Ops.nil ?_
            refine Blk.norm ?_
            refine Then.next ?_
            refine Body.region ?_
            refine Ops.u (Dtu.mv (lk rfl)) rfl ?_
            refine Ops.u (Dtu.add (lk rfl) (lk rfl) (w64 (by omega) (by omega))) rfl ?_
            refine Ops.u (Dtu.asg (lk rfl)) rfl ?_
            refine Ops.nil ?_
            refine Round.goK [2, 2, 2, 2] (q + 1, q, O2, bs2) rfl rfl rfl ⟨int_eq (by simp), rfl, rfl, trivial⟩ rfl rfl ⟨by dsimp only; omega, by dsimp only; omega, ?_, by dsimp only; omega⟩ (by dsimp only; omega)
            dsimp only
            rw [show q + 1 - q = 1 by omega, ← hbs, hr, he, hN]
            simp [encR, hrl]
    · have hD2 : bs = D := by
        rw [← hbs, List.drop_eq_nil_of_le (by omega)]
        simp [difR]
      subst hD2
      refine Body.exit ?_
      refine Then.exit ?_
      refine Round.exit ?_
      refine Blk.here ?_
      refine Then.next ?_
      refine Body.seq ?_
      refine Body.region ?_
      refine Ops.u (Dtu.mv (lk rfl)) rfl ?_
      refine Ops.u (Dtu.asg (lk rfl)) rfl ?_
      refine Ops.u (Dtu.asg (lk rfl)) rfl ?_
      refine Ops.nil ?_
      refine Then.next ?_
      refine Body.ret ?_
      exact ⟨.inr rfl, _, pk [1] rfl, O, rfl, rfl⟩
end Go.Proofs.Ytagcpamchgpgiaa
end
