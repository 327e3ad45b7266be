/- QNgb: FilB, FilC, FilD, FilE, FilF, FilG, FilH, FilI, FilJ, FilK, FilL, FilM. -/
import Derived.ChangeKeysEq
import Derived.Test.YtpmapedhigjalaaRga
import Derived.Test.YtpmapedhigjalaaRgb
import Derived.Test.YtpmapedhigjalaaRgc
import Derived.Test.YtpmapedhigjalaaRgd
section
/- file: next, Peek. -/
namespace Go.Proofs.Ytpmapedhigjalaa
set_option maxRecDepth 100000
set_option maxHeartbeats 4000000
set_option linter.unusedVariables false
set_option linter.unusedSimpArgs false
open Go.Sx


def nx (l : List Nat) (p : Nat) : Nat := (l.find? fun i => decide (p ≤ i)).getD l[0]!
def Snd.next (z : Snd) : Int := if z.st = 0 then (nx (miss z.n z.x) z.pos : Nat) else -1
theorem find_at {l : List Nat} {p j : Nat} (hj : j < l.length) (h : ∀ k, k < j → l[k]! < p) (hp : p ≤ l[j]!) : l.find? (fun i => decide (p ≤ i)) = some l[j]! := by
  induction l generalizing j with
  | nil => simp at hj
  | cons a t ih =>
    cases j with
    | zero => simp at hp ⊢; simp [hp]
    | succ j =>
      have h0 := h 0 (by omega)
      simp at h0
      rw [List.find?_cons_of_neg (by simp; omega)]
      have := ih (j := j) (by simp at hj; omega) (fun k hk => by have := h (k + 1) (by omega); simpa using this) (by simpa using hp)
      simpa using this
theorem find_no {l : List Nat} {p : Nat} (h : ∀ k, k < l.length → l[k]! < p) : l.find? (fun i => decide (p ≤ i)) = none := by
  rw [List.find?_eq_none]
  intro x hx
  obtain ⟨k, hk, rfl⟩ := List.mem_iff_getElem.1 hx
  have := h k hk
  rw [getElem!_pos l k hk] at this
  simp; omega
theorem bits_all {n x : Nat} (hx : x < 2 ^ n) (h : ∀ i, i < n → x.testBit i = true) : x = 2 ^ n - 1 := by
  refine Nat.eq_of_testBit_eq fun i => ?_
  rw [Nat.testBit_two_pow_sub_one]
  by_cases hi : i < n
  · simp [h i hi, hi]
  · rw [Nat.testBit_lt_two_pow (Nat.lt_of_lt_of_le hx (Nat.pow_le_pow_right (by omega) (by omega)))]; simp [hi]
theorem miss_ne {n x : Nat} (hx : x < 2 ^ n) (h : (x : Int) ≠ allN n) : 0 < (miss n x).length := by
  rcases Nat.eq_zero_or_pos (miss n x).length with h0 | h0
  · exfalso
    have hnil := List.length_eq_zero_iff.1 h0
    refine h ?_
    have := bits_all hx fun i hi => by
      have : i ∉ miss n x := by rw [hnil]; simp
      simp only [miss, List.mem_filter, List.mem_range, not_and] at this
      have := this hi
      simpa using this
    rw [allN, Int.toNat_natCast, this]
    have := Nat.one_le_two_pow (n := n)
    rw [Int.ofNat_sub this]; simp
  · exact h0
theorem ints_get {l : List Nat} {j : Nat} (h : j < l.length) : (ints l)[j]? = some (.int .i64 (l[j]! : Nat)) := by
  rw [ints, List.getElem?_map, List.getElem?_eq_getElem h, getElem!_pos l j h]; rfl
theorem snext_b (E : Env) (b : Nat) (z : Snd) (ok : z.Ok) (a : Option Addr) (c : Nat) : Does Try.prog 92 #[.pointer (some ⟨b, 0, none⟩)] E ([own b (.bool true :: .int .u64 z.id :: .string z.nm :: .int .i64 (z.bs.length : Nat) :: .int .u8 (z.sm 0) :: .int .u8 (z.sm 1) :: .int .u8 (z.sm 2) :: .int .u8 (z.sm 3) :: .int .u8 (z.sm 4) :: .int .u8 (z.sm 5) :: .int .u8 (z.sm 6) :: .int .u8 (z.sm 7) :: .int .u8 (z.sm 8) :: .int .u8 (z.sm 9) :: .int .u8 (z.sm 10) :: .int .u8 (z.sm 11) :: .int .u8 (z.sm 12) :: .int .u8 (z.sm 13) :: .int .u8 (z.sm 14) :: .int .u8 (z.sm 15) :: .int .u8 (z.sm 16) :: .int .u8 (z.sm 17) :: .int .u8 (z.sm 18) :: .int .u8 (z.sm 19) :: .int .u8 (z.sm 20) :: .int .u8 (z.sm 21) :: .int .u8 (z.sm 22) :: .int .u8 (z.sm 23) :: .int .u8 (z.sm 24) :: .int .u8 (z.sm 25) :: .int .u8 (z.sm 26) :: .int .u8 (z.sm 27) :: .int .u8 (z.sm 28) :: .int .u8 (z.sm 29) :: .int .u8 (z.sm 30) :: .int .u8 (z.sm 31) :: .slice a z.bs.length c :: .int .i64 z.n :: .int .u64 z.x :: .int .i64 z.pos :: .bool z.gone :: []) 104]) fun r H' => r = .int .i64 z.next ∧ H' = [own b (.bool true :: .int .u64 z.id :: .string z.nm :: .int .i64 (z.bs.length : Nat) :: .int .u8 (z.sm 0) :: .int .u8 (z.sm 1) :: .int .u8 (z.sm 2) :: .int .u8 (z.sm 3) :: .int .u8 (z.sm 4) :: .int .u8 (z.sm 5) :: .int .u8 (z.sm 6) :: .int .u8 (z.sm 7) :: .int .u8 (z.sm 8) :: .int .u8 (z.sm 9) :: .int .u8 (z.sm 10) :: .int .u8 (z.sm 11) :: .int .u8 (z.sm 12) :: .int .u8 (z.sm 13) :: .int .u8 (z.sm 14) :: .int .u8 (z.sm 15) :: .int .u8 (z.sm 16) :: .int .u8 (z.sm 17) :: .int .u8 (z.sm 18) :: .int .u8 (z.sm 19) :: .int .u8 (z.sm 20) :: .int .u8 (z.sm 21) :: .int .u8 (z.sm 22) :: .int .u8 (z.sm 23) :: .int .u8 (z.sm 24) :: .int .u8 (z.sm 25) :: .int .u8 (z.sm 26) :: .int .u8 (z.sm 27) :: .int .u8 (z.sm 28) :: .int .u8 (z.sm 29) :: .int .u8 (z.sm 30) :: .int .u8 (z.sm 31) :: .slice a z.bs.length c :: .int .i64 z.n :: .int .u64 z.x :: .int .i64 z.pos :: .bool z.gone :: []) 104] := by
  have hr := ok.r
  have hu := ok.u
  have hn := ok.n
  refine Does.go _ _ Try.func92 rfl Try.ntmps92 rfl rfl ?_
  by_cases hst : z.st = 0
  · have hmn : 0 < (miss z.n z.x).length := miss_ne ok.x (by
      intro h
      unfold Snd.st Snd.full at hst
      rw [decide_eq_true h] at hst
      cases hg : z.gone <;> simp [hg] at hst)
    have hml := miss_le z.n z.x
    have hnx : z.next = (nx (miss z.n z.x) z.pos : Nat) := by unfold Snd.next; rw [if_pos hst]
    rw [hnx]
    have hx0 := ints_get hmn
    generalize hl : miss z.n z.x = l at *
    refine Body.seq ?_
    refine Body.region ?_
    refine Ops.u (Dtu.asg (lk rfl)) rfl ?_
    refine Ops.nil ?_
    refine Then.next ?_
    refine Body.scope ?_
    refine Body.seq ?_
    refine Body.seq ?_
    refine Body.region ?_
    refine Ops.u (Dtu.mv (lk rfl)) rfl ?_
    refine Ops.u (Dtu.eqNil Try.underlying75 (lk rfl) (lk rfl)) rfl ?_
    refine Ops.u (Dtu.mv (lk rfl)) rfl ?_
    refine Ops.gu rfl rfl rfl (Dtu.mv (lk rfl)) rfl ?_
    refine Ops.gu rfl rfl rfl (Dtu.nilck (lk rfl)) rfl ?_
    refine Ops.gu rfl rfl rfl (Dtu.fld fa104_0 (lk rfl)) rfl ?_
    refine Ops.gd rfl rfl rfl (Det.ld Try.isAgg4 (lk rfl) (Rd.ow 0 rfl rfl)) rfl ?_
    refine Ops.gu rfl rfl rfl (Dtu.not (lk rfl)) rfl ?_
    refine Ops.u (Dtu.pickF (lk rfl) (lk rfl)) rfl ?_
    refine Ops.u (Dtu.mv (lk rfl)) rfl ?_
    refine Ops.gu rfl rfl rfl (Dtu.mv (lk rfl)) rfl ?_
    refine Ops.gs rfl rfl rfl (Stp.callOwn [0] rfl rfl Try.call53 (lks rfl) (fun E' le hat => sstate_b E' _ _ (by first | assumption | omega) _ _) ?_) rfl
    rintro _ _ ⟨rfl, rfl⟩
    refine Ops.gu rfl rfl rfl (Dtu.neq (lk rfl) (lk rfl)) rfl ?_
    refine Ops.u (Dtu.pickF (lk rfl) (lk rfl)) rfl ?_
    refine Ops.nil ?_
    refine Then.next ?_
    refine Body.condP (lk rfl) (fun hy => absurd hy (by first | omega | assumption | decide)) (fun _ => ?_)
    refine Body.skip ?_
    refine Then.next ?_
    refine Body.seq ?_
    refine Body.region ?_
    refine Ops.u (Dtu.mv (lk rfl)) rfl ?_
    refine Ops.u (Dtu.nilck (lk rfl)) rfl ?_
    refine Ops.u (Dtu.fld fa104_3 (lk rfl)) rfl ?_
    refine Ops.d (Det.lda Try.isAgg86 Try.sizeOf86 (lk rfl) (Rds.ow (m := 2) 0 rfl rfl) rfl) rfl ?_
    refine Ops.s (Stp.call rfl Try.call99 (lks rfl) (fun E' le hat => bmissN_ok E' _ _ (by first | assumption | omega) (by first | assumption | omega)) ?_) rfl
    rintro _ _ ⟨na25, nc25, rfl, rfl⟩
    refine Ops.u (Dtu.asg (lk rfl)) rfl ?_
    refine Ops.nil ?_
    refine Then.next ?_
    refine Body.seq ?_
    refine Body.region ?_
    refine Ops.u (Dtu.mv (lk rfl)) rfl ?_
    rw [hl]
    refine Ops.u (Dtu.ix (i := 0) Try.underlying107 Try.sizeOf3 (Sl.osl 0 rfl) (lk rfl) (lk rfl) (by omega) (by omega)) rfl ?_
    refine Ops.d (Det.ld Try.isAgg3 (lk rfl) (Rd.sl (Sl.osl 0 rfl) (by with_reducible assumption))) rfl ?_
    refine Ops.u (Dtu.asg (lk rfl)) rfl ?_
    refine Ops.nil ?_
    refine Then.next ?_
    refine Body.seq ?_
    refine Body.label ?_
    refine Then.next ?_
    refine Body.seq ?_
    refine Body.seq ?_
    refine Body.region ?_
    refine Ops.u (Dtu.mv (lk rfl)) rfl ?_
    refine Ops.u (Dtu.lenS Try.underlying107 (Sl.osl 0 rfl) (lk rfl)) rfl ?_
    refine Ops.u (Dtu.mv (lk rfl)) rfl ?_
    refine Ops.nil ?_
    refine Then.next ?_
    refine Body.block ?_
    refine Body.loopH (γ := Nat) rfl (fun j => [(31, .int .i64 j), (4, .int .i64 ((l[0]! : Nat) : Int))]) (fun j => []) (fun j => j ≤ l.length ∧ ∀ k, k < j → l[k]! < z.pos) (fun j => l.length - j) (0) (⟨by omega, fun k hk => by omega⟩) ⟨rfl, rfl, trivial⟩ rfl ?_
    rintro j u0 ⟨hj, hlow⟩
    by_cases hlt : j < l.length
    · have hxj := ints_get hlt
      by_cases hp : z.pos ≤ l[j]!
      · have hval : nx l z.pos = l[j]! := by unfold nx; rw [find_at hlt hlow hp]; rfl
        rw [hval]
        refine Body.seq ?_
        refine Body.region ?_
        refine Ops.u (Dtu.lss (lk rfl) (lk rfl)) rfl ?_
        refine Ops.nil ?_
        refine Then.next ?_
        refine Body.seq ?_
        refine Body.condP (lk rfl) (fun _ => ?_) (fun hn => absurd (by first | omega | assumption | decide) hn)
        refine Body.skip ?_
        refine Then.next ?_
        refine Body.seq ?_
        refine Body.block ?_
        refine Body.seq ?_
        refine Body.region ?_
        refine Ops.u (Dtu.ix (i := (j)) Try.underlying107 Try.sizeOf3 (Sl.osl 0 rfl) (lk rfl) (lk rfl) (by omega) (by omega)) rfl ?_
        refine Ops.d (Det.ld Try.isAgg3 (lk rfl) (Rd.sl (Sl.osl 0 rfl) (gm (by omega)))) rfl ?_
        refine Ops.u (Dtu.asg (lk rfl)) rfl ?_
        refine Ops.nil ?_
        refine Then.next ?_
        refine Body.seq ?_
        refine Body.region ?_
        refine Ops.u (Dtu.mv (lk rfl)) rfl ?_
        refine Ops.u (Dtu.mv (lk rfl)) rfl ?_
        refine Ops.u (Dtu.nilck (lk rfl)) rfl ?_
        refine Ops.u (Dtu.fld fa104_4 (lk rfl)) rfl ?_
        refine Ops.d (Det.ld Try.isAgg3 (lk rfl) (Rd.ow 1 rfl rfl)) rfl ?_
        refine Ops.u (Dtu.geq (lk rfl) (lk rfl)) rfl ?_
        refine Ops.nil ?_
        refine Then.next ?_
        refine Body.condP (lk rfl) (fun _ => ?_) (fun hn => absurd (by first | omega | assumption | decide) hn)
        refine Body.seq ?_
        refine Body.region ?_
        refine Ops.u (Dtu.mv (lk rfl)) rfl ?_
        refine Ops.u (Dtu.asg (lk rfl)) rfl ?_
        refine Ops.nil ?_
        refine Then.next ?_
        refine Body.exit ?_
        refine Blk.past rfl ?_
        refine Then.exit ?_
        refine Round.exit ?_
        refine Blk.here ?_
        refine Then.next ?_
        refine Body.seq ?_
        refine Body.region ?_
        refine Ops.u (Dtu.mv (lk rfl)) rfl ?_
        refine Ops.u (Dtu.asg (lk rfl)) rfl ?_
        refine Ops.nil ?_
        refine Then.next ?_
        refine Body.ret ?_
        exact ⟨.inr rfl, _, pk [1] rfl, rfl, rfl⟩
      · have hlow2 : ∀ k, k < j + 1 → l[k]! < z.pos := fun k hk => by
          rcases Nat.lt_succ_iff_lt_or_eq.1 hk with h | rfl
          · exact hlow k h
          · omega
        refine Body.seq ?_
        refine Body.region ?_
        refine Ops.u (Dtu.lss (lk rfl) (lk rfl)) rfl ?_
        refine Ops.nil ?_
        refine Then.next ?_
        refine Body.seq ?_
        refine Body.condP (lk rfl) (fun _ => ?_) (fun hn => absurd (by first | omega | assumption | decide) hn)
        refine Body.skip ?_
        refine Then.next ?_
        refine Body.seq ?_
        refine Body.block ?_
        refine Body.seq ?_
        refine Body.region ?_
        refine Ops.u (Dtu.ix (i := (j)) Try.underlying107 Try.sizeOf3 (Sl.osl 0 rfl) (lk rfl) (lk rfl) (by omega) (by omega)) rfl ?_
        refine Ops.d (Det.ld Try.isAgg3 (lk rfl) (Rd.sl (Sl.osl 0 rfl) (gm (by omega)))) rfl ?_
        refine Ops.u (Dtu.asg (lk rfl)) rfl ?_
        refine Ops.nil ?_
        refine Then.next ?_
        refine Body.seq ?_
        refine Body.region ?_
        refine Ops.u (Dtu.mv (lk rfl)) rfl ?_
        refine Ops.u (Dtu.mv (lk rfl)) rfl ?_
        refine Ops.u (Dtu.nilck (lk rfl)) rfl ?_
        refine Ops.u (Dtu.fld fa104_4 (lk rfl)) rfl ?_
        refine Ops.d (Det.ld Try.isAgg3 (lk rfl) (Rd.ow 1 rfl rfl)) rfl ?_
        refine Ops.u (Dtu.geq (lk rfl) (lk rfl)) rfl ?_
        refine Ops.nil ?_
        refine Then.next ?_
        refine Body.condP (lk rfl) (fun hy => absurd hy (by first | omega | assumption | decide)) (fun _ => ?_)
        refine Body.skip ?_
        refine Blk.norm ?_
        refine Then.next ?_
        refine Body.region ?_
        refine Ops.u (Dtu.add (lk rfl) (lk rfl) (w64 (by omega) (by omega))) rfl ?_
        refine Ops.u (Dtu.mv (lk rfl)) rfl ?_
        refine Ops.nil ?_
        refine Round.goK [0, 0] (j + 1) rfl rfl rfl ⟨rfl, rfl, trivial⟩ rfl rfl ⟨by omega, hlow2⟩ (by omega)
    · obtain rfl : j = l.length := by omega
      have hval : nx l z.pos = l[0]! := by unfold nx; rw [find_no hlow]; rfl
      rw [hval]
      refine Body.seq ?_
      refine Body.region ?_
      refine Ops.u (Dtu.lss (lk rfl) (lk rfl)) rfl ?_
      refine Ops.nil ?_
      refine Then.next ?_
      refine Body.seq ?_
      refine Body.condP (lk rfl) (fun hy => absurd hy (by first | omega | assumption | decide)) (fun _ => ?_)
      refine Body.exit ?_
      refine Then.exit ?_
      refine Round.exit ?_
      refine Blk.here ?_
      refine Then.next ?_
      refine Body.seq ?_
      refine Body.region ?_
      refine Ops.u (Dtu.mv (lk rfl)) rfl ?_
      refine Ops.u (Dtu.asg (lk rfl)) rfl ?_
      refine Ops.nil ?_
      refine Then.next ?_
      refine Body.ret ?_
      exact ⟨.inr rfl, _, pk [1] rfl, rfl, rfl⟩
  · have hnx : z.next = -1 := by unfold Snd.next; rw [if_neg hst]
    rw [hnx]
    refine Body.seq ?_
    refine Body.region ?_
    refine Ops.u (Dtu.asg (lk rfl)) rfl ?_
    refine Ops.nil ?_
    refine Then.next ?_
    refine Body.scope ?_
    refine Body.seq ?_
    refine Body.seq ?_
    refine Body.region ?_
    refine Ops.u (Dtu.mv (lk rfl)) rfl ?_
    refine Ops.u (Dtu.eqNil Try.underlying75 (lk rfl) (lk rfl)) rfl ?_
    refine Ops.u (Dtu.mv (lk rfl)) rfl ?_
    refine Ops.gu rfl rfl rfl (Dtu.mv (lk rfl)) rfl ?_
    refine Ops.gu rfl rfl rfl (Dtu.nilck (lk rfl)) rfl ?_
    refine Ops.gu rfl rfl rfl (Dtu.fld fa104_0 (lk rfl)) rfl ?_
    refine Ops.gd rfl rfl rfl (Det.ld Try.isAgg4 (lk rfl) (Rd.ow 0 rfl rfl)) rfl ?_
    refine Ops.gu rfl rfl rfl (Dtu.not (lk rfl)) rfl ?_
    refine Ops.u (Dtu.pickF (lk rfl) (lk rfl)) rfl ?_
    refine Ops.u (Dtu.mv (lk rfl)) rfl ?_
    refine Ops.gu rfl rfl rfl (Dtu.mv (lk rfl)) rfl ?_
    refine Ops.gs rfl rfl rfl (Stp.callOwn [0] rfl rfl Try.call53 (lks rfl) (fun E' le hat => sstate_b E' _ _ (by first | assumption | omega) _ _) ?_) rfl
    rintro _ _ ⟨rfl, rfl⟩
    refine Ops.gu rfl rfl rfl (Dtu.neq (lk rfl) (lk rfl)) rfl ?_
    refine Ops.u (Dtu.pickF (lk rfl) (lk rfl)) rfl ?_
    refine Ops.nil ?_
    refine Then.next ?_
    refine Body.condP (lk rfl) (fun _ => ?_) (fun hn => absurd (by first | omega | assumption | decide) hn)
    refine Body.seq ?_
    refine Body.region ?_
    refine Ops.u (Dtu.asg (lk rfl)) rfl ?_
    refine Ops.nil ?_
    refine Then.next ?_
    refine Body.ret ?_
    refine Then.ret ?_
    exact ⟨.inr rfl, _, pk [0] rfl, rfl, rfl⟩
def Snd.nxt (z : Snd) : Nat := nx (miss z.n z.x) z.pos
theorem nx_mem {l : List Nat} {p : Nat} (h : 0 < l.length) : nx l p ∈ l := by
  unfold nx
  cases hf : l.find? fun i => decide (p ≤ i) with
  | none => simp only [Option.getD_none]; rw [getElem!_pos l 0 h]; exact List.getElem_mem _
  | some i => exact List.mem_of_find?_eq_some hf
theorem Snd.miss_ne {z : Snd} (ok : z.Ok) (hst : z.st = 0) : 0 < (miss z.n z.x).length := Go.Proofs.Ytpmapedhigjalaa.miss_ne ok.x (by
  intro h
  unfold Snd.st Snd.full at hst
  rw [decide_eq_true h] at hst
  cases hg : z.gone <;> simp [hg] at hst)
theorem Snd.nxt_lt {z : Snd} (ok : z.Ok) (hst : z.st = 0) : z.nxt < z.n := by
  have := nx_mem (p := z.pos) (Snd.miss_ne ok hst)
  unfold Snd.nxt
  simp only [miss, List.mem_filter, List.mem_range] at this
  exact this.1
theorem snextY_b (E : Env) (b : Nat) (z : Snd) (ok : z.Ok) (a : Option Addr) (c : Nat) (hst : z.st = 0) : Does Try.prog 92 #[.pointer (some ⟨b, 0, none⟩)] E ([own b (.bool true :: .int .u64 z.id :: .string z.nm :: .int .i64 (z.bs.length : Nat) :: .int .u8 (z.sm 0) :: .int .u8 (z.sm 1) :: .int .u8 (z.sm 2) :: .int .u8 (z.sm 3) :: .int .u8 (z.sm 4) :: .int .u8 (z.sm 5) :: .int .u8 (z.sm 6) :: .int .u8 (z.sm 7) :: .int .u8 (z.sm 8) :: .int .u8 (z.sm 9) :: .int .u8 (z.sm 10) :: .int .u8 (z.sm 11) :: .int .u8 (z.sm 12) :: .int .u8 (z.sm 13) :: .int .u8 (z.sm 14) :: .int .u8 (z.sm 15) :: .int .u8 (z.sm 16) :: .int .u8 (z.sm 17) :: .int .u8 (z.sm 18) :: .int .u8 (z.sm 19) :: .int .u8 (z.sm 20) :: .int .u8 (z.sm 21) :: .int .u8 (z.sm 22) :: .int .u8 (z.sm 23) :: .int .u8 (z.sm 24) :: .int .u8 (z.sm 25) :: .int .u8 (z.sm 26) :: .int .u8 (z.sm 27) :: .int .u8 (z.sm 28) :: .int .u8 (z.sm 29) :: .int .u8 (z.sm 30) :: .int .u8 (z.sm 31) :: .slice a z.bs.length c :: .int .i64 z.n :: .int .u64 z.x :: .int .i64 z.pos :: .bool z.gone :: []) 104]) fun r H' => r = .int .i64 z.nxt ∧ H' = [own b (.bool true :: .int .u64 z.id :: .string z.nm :: .int .i64 (z.bs.length : Nat) :: .int .u8 (z.sm 0) :: .int .u8 (z.sm 1) :: .int .u8 (z.sm 2) :: .int .u8 (z.sm 3) :: .int .u8 (z.sm 4) :: .int .u8 (z.sm 5) :: .int .u8 (z.sm 6) :: .int .u8 (z.sm 7) :: .int .u8 (z.sm 8) :: .int .u8 (z.sm 9) :: .int .u8 (z.sm 10) :: .int .u8 (z.sm 11) :: .int .u8 (z.sm 12) :: .int .u8 (z.sm 13) :: .int .u8 (z.sm 14) :: .int .u8 (z.sm 15) :: .int .u8 (z.sm 16) :: .int .u8 (z.sm 17) :: .int .u8 (z.sm 18) :: .int .u8 (z.sm 19) :: .int .u8 (z.sm 20) :: .int .u8 (z.sm 21) :: .int .u8 (z.sm 22) :: .int .u8 (z.sm 23) :: .int .u8 (z.sm 24) :: .int .u8 (z.sm 25) :: .int .u8 (z.sm 26) :: .int .u8 (z.sm 27) :: .int .u8 (z.sm 28) :: .int .u8 (z.sm 29) :: .int .u8 (z.sm 30) :: .int .u8 (z.sm 31) :: .slice a z.bs.length c :: .int .i64 z.n :: .int .u64 z.x :: .int .i64 z.pos :: .bool z.gone :: []) 104] := by
  have := snext_b E b z ok a c
  unfold Snd.next at this
  rw [if_pos hst] at this
  exact this
theorem Snd.next_no {z : Snd} (h : ¬ z.st = 0) : z.next = -1 := by unfold Snd.next; rw [if_neg h]
theorem speek_y (E : Env) (b : Nat) (z : Snd) (ok : z.Ok) (a : Option Addr) (c : Nat) (hst : z.st = 0) : Does Try.prog 40 #[.pointer (some ⟨b, 0, none⟩)] E ([own b (.bool true :: .int .u64 z.id :: .string z.nm :: .int .i64 (z.bs.length : Nat) :: .int .u8 (z.sm 0) :: .int .u8 (z.sm 1) :: .int .u8 (z.sm 2) :: .int .u8 (z.sm 3) :: .int .u8 (z.sm 4) :: .int .u8 (z.sm 5) :: .int .u8 (z.sm 6) :: .int .u8 (z.sm 7) :: .int .u8 (z.sm 8) :: .int .u8 (z.sm 9) :: .int .u8 (z.sm 10) :: .int .u8 (z.sm 11) :: .int .u8 (z.sm 12) :: .int .u8 (z.sm 13) :: .int .u8 (z.sm 14) :: .int .u8 (z.sm 15) :: .int .u8 (z.sm 16) :: .int .u8 (z.sm 17) :: .int .u8 (z.sm 18) :: .int .u8 (z.sm 19) :: .int .u8 (z.sm 20) :: .int .u8 (z.sm 21) :: .int .u8 (z.sm 22) :: .int .u8 (z.sm 23) :: .int .u8 (z.sm 24) :: .int .u8 (z.sm 25) :: .int .u8 (z.sm 26) :: .int .u8 (z.sm 27) :: .int .u8 (z.sm 28) :: .int .u8 (z.sm 29) :: .int .u8 (z.sm 30) :: .int .u8 (z.sm 31) :: .slice a z.bs.length c :: .int .i64 z.n :: .int .u64 z.x :: .int .i64 z.pos :: .bool z.gone :: []) 104]) fun r H' => r = .tuple #[.int .i64 (lenN z.bs.length z.nxt), .bool true] ∧ H' = [own b (.bool true :: .int .u64 z.id :: .string z.nm :: .int .i64 (z.bs.length : Nat) :: .int .u8 (z.sm 0) :: .int .u8 (z.sm 1) :: .int .u8 (z.sm 2) :: .int .u8 (z.sm 3) :: .int .u8 (z.sm 4) :: .int .u8 (z.sm 5) :: .int .u8 (z.sm 6) :: .int .u8 (z.sm 7) :: .int .u8 (z.sm 8) :: .int .u8 (z.sm 9) :: .int .u8 (z.sm 10) :: .int .u8 (z.sm 11) :: .int .u8 (z.sm 12) :: .int .u8 (z.sm 13) :: .int .u8 (z.sm 14) :: .int .u8 (z.sm 15) :: .int .u8 (z.sm 16) :: .int .u8 (z.sm 17) :: .int .u8 (z.sm 18) :: .int .u8 (z.sm 19) :: .int .u8 (z.sm 20) :: .int .u8 (z.sm 21) :: .int .u8 (z.sm 22) :: .int .u8 (z.sm 23) :: .int .u8 (z.sm 24) :: .int .u8 (z.sm 25) :: .int .u8 (z.sm 26) :: .int .u8 (z.sm 27) :: .int .u8 (z.sm 28) :: .int .u8 (z.sm 29) :: .int .u8 (z.sm 30) :: .int .u8 (z.sm 31) :: .slice a z.bs.length c :: .int .i64 z.n :: .int .u64 z.x :: .int .i64 z.pos :: .bool z.gone :: []) 104] := by
  have hi : z.nxt < (z.bs.length + 63) / 64 := Snd.nxt_lt ok hst
  have hl := ok.len
  refine Does.go _ _ Try.func40 rfl Try.ntmps40 rfl rfl ?_
  refine Body.seq ?_
  refine Body.region ?_
  refine Ops.u (Dtu.asg (lk rfl)) rfl ?_
  refine Ops.u (Dtu.asg (lk rfl)) rfl ?_
  refine Ops.nil ?_
  refine Then.next ?_
  refine Body.seq ?_
  refine Body.region ?_
  refine Ops.u (Dtu.mv (lk rfl)) rfl ?_
  refine Ops.s (Stp.callOwn [0] rfl rfl Try.call92 (lks rfl) (fun E' le hat => snextY_b E' _ _ (by first | assumption | omega) _ _ (by first | assumption | omega)) ?_) rfl
  rintro _ _ ⟨rfl, rfl⟩
  refine Ops.u (Dtu.asg (lk rfl)) rfl ?_
  refine Ops.nil ?_
  refine Then.next ?_
  refine Body.seq ?_
  refine Body.seq ?_
  refine Body.region ?_
  refine Ops.u (Dtu.mv (lk rfl)) rfl ?_
  refine Ops.u (Dtu.lss (lk rfl) (lk rfl)) rfl ?_
  refine Ops.nil ?_
  refine Then.next ?_
  refine Body.condP (lk rfl) (fun hy => absurd hy (by first | omega | assumption | decide)) (fun _ => ?_)
  refine Body.skip ?_
  refine Then.next ?_
  refine Body.seq ?_
  refine Body.region ?_
  refine Ops.u (Dtu.mv (lk rfl)) rfl ?_
  refine Ops.u (Dtu.nilck (lk rfl)) rfl ?_
  refine Ops.u (Dtu.fld fa104_1 (lk rfl)) rfl ?_
  refine Ops.u (Dtu.fld fa82_2 (lk rfl)) rfl ?_
  refine Ops.d (Det.ld Try.isAgg3 (lk rfl) (Rd.ow 0 rfl rfl)) rfl ?_
  refine Ops.u (Dtu.mv (lk rfl)) rfl ?_
  refine Ops.s (Stp.call rfl Try.call63 (lks rfl) (fun E' le hat => slengthN_ok E' _ _ (by first | assumption | omega) (by first | assumption | omega)) ?_) rfl
  rintro _ _ ⟨rfl, rfl⟩
  refine Ops.u (Dtu.asg (lk rfl)) rfl ?_
  refine Ops.u (Dtu.asg (lk rfl)) rfl ?_
  refine Ops.nil ?_
  refine Then.next ?_
  refine Body.ret ?_
  exact ⟨.inr rfl, _, pk [0] rfl, rfl, rfl⟩
theorem speek_n (E : Env) (b : Nat) (z : Snd) (ok : z.Ok) (a : Option Addr) (c : Nat) (hst : ¬ z.st = 0) : Does Try.prog 40 #[.pointer (some ⟨b, 0, none⟩)] E ([own b (.bool true :: .int .u64 z.id :: .string z.nm :: .int .i64 (z.bs.length : Nat) :: .int .u8 (z.sm 0) :: .int .u8 (z.sm 1) :: .int .u8 (z.sm 2) :: .int .u8 (z.sm 3) :: .int .u8 (z.sm 4) :: .int .u8 (z.sm 5) :: .int .u8 (z.sm 6) :: .int .u8 (z.sm 7) :: .int .u8 (z.sm 8) :: .int .u8 (z.sm 9) :: .int .u8 (z.sm 10) :: .int .u8 (z.sm 11) :: .int .u8 (z.sm 12) :: .int .u8 (z.sm 13) :: .int .u8 (z.sm 14) :: .int .u8 (z.sm 15) :: .int .u8 (z.sm 16) :: .int .u8 (z.sm 17) :: .int .u8 (z.sm 18) :: .int .u8 (z.sm 19) :: .int .u8 (z.sm 20) :: .int .u8 (z.sm 21) :: .int .u8 (z.sm 22) :: .int .u8 (z.sm 23) :: .int .u8 (z.sm 24) :: .int .u8 (z.sm 25) :: .int .u8 (z.sm 26) :: .int .u8 (z.sm 27) :: .int .u8 (z.sm 28) :: .int .u8 (z.sm 29) :: .int .u8 (z.sm 30) :: .int .u8 (z.sm 31) :: .slice a z.bs.length c :: .int .i64 z.n :: .int .u64 z.x :: .int .i64 z.pos :: .bool z.gone :: []) 104]) fun r H' => r = .tuple #[.int .i64 0, .bool false] ∧ H' = [own b (.bool true :: .int .u64 z.id :: .string z.nm :: .int .i64 (z.bs.length : Nat) :: .int .u8 (z.sm 0) :: .int .u8 (z.sm 1) :: .int .u8 (z.sm 2) :: .int .u8 (z.sm 3) :: .int .u8 (z.sm 4) :: .int .u8 (z.sm 5) :: .int .u8 (z.sm 6) :: .int .u8 (z.sm 7) :: .int .u8 (z.sm 8) :: .int .u8 (z.sm 9) :: .int .u8 (z.sm 10) :: .int .u8 (z.sm 11) :: .int .u8 (z.sm 12) :: .int .u8 (z.sm 13) :: .int .u8 (z.sm 14) :: .int .u8 (z.sm 15) :: .int .u8 (z.sm 16) :: .int .u8 (z.sm 17) :: .int .u8 (z.sm 18) :: .int .u8 (z.sm 19) :: .int .u8 (z.sm 20) :: .int .u8 (z.sm 21) :: .int .u8 (z.sm 22) :: .int .u8 (z.sm 23) :: .int .u8 (z.sm 24) :: .int .u8 (z.sm 25) :: .int .u8 (z.sm 26) :: .int .u8 (z.sm 27) :: .int .u8 (z.sm 28) :: .int .u8 (z.sm 29) :: .int .u8 (z.sm 30) :: .int .u8 (z.sm 31) :: .slice a z.bs.length c :: .int .i64 z.n :: .int .u64 z.x :: .int .i64 z.pos :: .bool z.gone :: []) 104] := by
  have h0 := Snd.next_no hst
  refine Does.go _ _ Try.func40 rfl Try.ntmps40 rfl rfl ?_
  refine Body.seq ?_
  refine Body.region ?_
  refine Ops.u (Dtu.asg (lk rfl)) rfl ?_
  refine Ops.u (Dtu.asg (lk rfl)) rfl ?_
  refine Ops.nil ?_
  refine Then.next ?_
  refine Body.seq ?_
  refine Body.region ?_
  refine Ops.u (Dtu.mv (lk rfl)) rfl ?_
  refine Ops.s (Stp.callOwn [0] rfl rfl Try.call92 (lks rfl) (fun E' le hat => snext_b E' _ _ (by first | assumption | omega) _ _) ?_) rfl
  rintro _ _ ⟨rfl, rfl⟩
  refine Ops.u (Dtu.asg (lk rfl)) rfl ?_
  refine Ops.nil ?_
  refine Then.next ?_
  refine Body.seq ?_
  refine Body.seq ?_
  refine Body.region ?_
  refine Ops.u (Dtu.mv (lk rfl)) rfl ?_
  refine Ops.u (Dtu.lss (lk rfl) (lk rfl)) rfl ?_
  refine Ops.nil ?_
  refine Then.next ?_
  refine Body.condP (lk rfl) (fun _ => ?_) (fun hn => absurd (by first | omega | assumption | decide) hn)
  refine Body.seq ?_
  refine Body.region ?_
  refine Ops.u (Dtu.asg (lk rfl)) rfl ?_
  refine Ops.u (Dtu.asg (lk rfl)) rfl ?_
  refine Ops.nil ?_
  refine Then.next ?_
  refine Body.ret ?_
  refine Then.ret ?_
  exact ⟨.inr rfl, _, pk [0] rfl, rfl, rfl⟩
end Go.Proofs.Ytpmapedhigjalaa
end
section
/- file: Next, Know, Anew, Cancel, Info. -/
namespace Go.Proofs.Ytpmapedhigjalaa
set_option maxRecDepth 100000
set_option maxHeartbeats 4000000
set_option linter.unusedVariables false
set_option linter.unusedSimpArgs false
open Go.Sx


/-- slices.Clone at one type -/
theorem cloneB_ok (E : Env) (v : Value) (m : Nat) (vs : List Value) (h : Sl E [] 1 v m vs) (h1 : vs.all (·.oneCell') = true) (hb : m * 1 ≤ 140737488355328) : Does Try.prog 90 #[v] E [] fun r H' => H' = [osl 5 1 r m vs] ∧ IsSl r := by
  refine Does.go (args := [v]) _ _ Try.func90 rfl Try.ntmps90 rfl rfl ?_
  refine Body.seq ?_
  refine Body.region ?_
  refine Ops.u (Dtu.asg (lk rfl)) rfl ?_
  refine Ops.nil ?_
  refine Then.next ?_
  refine Body.seq ?_
  refine Body.seq ?_
  refine Body.region ?_
  refine Ops.u (Dtu.mv (lk rfl)) rfl ?_
  refine Ops.u (Dtu.nilS Try.underlying73 (Sl.up h) (lk rfl)) rfl ?_
  refine Ops.nil ?_
  refine Then.next ?_
  refine Body.cond (lk rfl) (fun c4 => ?_) (fun c4 => ?_)
  · refine Body.pure (h.nil0 c4) ?_
    rintro ⟨rfl, rfl⟩
    refine Body.seq ?_
    refine Body.region ?_
    refine Ops.u (Dtu.asg (lk rfl)) rfl ?_
    refine Ops.nil ?_
    refine Then.next ?_
    refine Body.ret ?_
    refine Then.ret ?_
    exact ⟨.inr rfl, _, fun w s => osl_nil (pk [] rfl w s), rfl, ⟨_, _, _, rfl⟩⟩
  · refine Body.pure h.len ?_
    rintro ⟨hl, hm⟩
    refine Body.skip ?_
    refine Then.next ?_
    refine Body.seq ?_
    refine Body.region ?_
    refine Ops.s (Stp.buildSlice0 Try.underlying73 ty5 (fun b5 => ?_)) rfl
    refine Ops.u (Dtu.mv (lk rfl)) rfl ?_
    refine Ops.s (Stp.appendNew Try.underlying73 ty5 rfl (lk rfl) (lk rfl) h.up h1 hb hm (fun v7 => ?_)) rfl
    refine Ops.pure (Sl.isSl (Sl.osl 0 rfl)) fun hsl => ?_
    refine Ops.u (Dtu.asg (lk rfl)) rfl ?_
    refine Ops.nil ?_
    refine Then.next ?_
    refine Body.ret ?_
    exact ⟨.inr rfl, _, pk [0] rfl, rfl, hsl⟩

/-- slices.Clone at one type -/
theorem cloneI_ok (E : Env) (v : Value) (m : Nat) (vs : List Value) (h : Sl E [] 1 v m vs) (h1 : vs.all (·.oneCell') = true) (hb : m * 8 ≤ 140737488355328) : Does Try.prog 100 #[v] E [] fun r H' => H' = [osl 3 1 r m vs] ∧ IsSl r := by
  refine Does.go (args := [v]) _ _ Try.func100 rfl Try.ntmps100 rfl rfl ?_
  refine Body.seq ?_
  refine Body.region ?_
  refine Ops.u (Dtu.asg (lk rfl)) rfl ?_
  refine Ops.nil ?_
  refine Then.next ?_
  refine Body.seq ?_
  refine Body.seq ?_
  refine Body.region ?_
  refine Ops.u (Dtu.mv (lk rfl)) rfl ?_
  refine Ops.u (Dtu.nilS Try.underlying107 (Sl.up h) (lk rfl)) rfl ?_
  refine Ops.nil ?_
  refine Then.next ?_
  refine Body.cond (lk rfl) (fun c4 => ?_) (fun c4 => ?_)
  · refine Body.pure (h.nil0 c4) ?_
    rintro ⟨rfl, rfl⟩
    refine Body.seq ?_
    refine Body.region ?_
    refine Ops.u (Dtu.asg (lk rfl)) rfl ?_
    refine Ops.nil ?_
    refine Then.next ?_
    refine Body.ret ?_
    refine Then.ret ?_
    exact ⟨.inr rfl, _, fun w s => osl_nil (pk [] rfl w s), rfl, ⟨_, _, _, rfl⟩⟩
  · refine Body.pure h.len ?_
    rintro ⟨hl, hm⟩
    refine Body.skip ?_
    refine Then.next ?_
    refine Body.seq ?_
    refine Body.region ?_
    refine Ops.s (Stp.buildSlice0 Try.underlying107 ty3 (fun b5 => ?_)) rfl
    refine Ops.u (Dtu.mv (lk rfl)) rfl ?_
    refine Ops.s (Stp.appendNew Try.underlying107 ty3 rfl (lk rfl) (lk rfl) h.up h1 hb hm (fun v7 => ?_)) rfl
    refine Ops.pure (Sl.isSl (Sl.osl 0 rfl)) fun hsl => ?_
    refine Ops.u (Dtu.asg (lk rfl)) rfl ?_
    refine Ops.nil ?_
    refine Then.next ?_
    refine Body.ret ?_
    exact ⟨.inr rfl, _, pk [0] rfl, rfl, hsl⟩

def chunk (bs : List Int) (i : Nat) : List Int := (bs.drop (64 * i)).take (lenN bs.length i)
theorem u8s_one (l : List Int) : (l.map (Value.int .u8)).all (·.oneCell') = true := by simp [Value.oneCell']
theorem Sl.chunk {E : Env} {v : Value} {bs : List Int} {i : Nat} (h : Sl E [] 1 v bs.length (bs.map (.int .u8))) (hi : i < (bs.length + 63) / 64) : Sl E [] 1 (subSl v 1 (i * 64) (i * 64 + lenN bs.length i) (i * 64 + lenN bs.length i)) (lenN bs.length i) ((chunk bs i).map (.int .u8)) := fun w s => by
  have hl := lenN_le hi
  have e : lenN bs.length i = i * 64 + lenN bs.length i - i * 64 := by omega
  have := subSl_slW (h w s) (lo := i * 64) (hi := i * 64 + lenN bs.length i) (mx := i * 64 + lenN bs.length i) (by omega) (by omega) (by omega) (Nat.le_trans (by omega) (h w s).cap.1)
  rw [← e] at this
  rw [Go.Proofs.Ytpmapedhigjalaa.chunk, List.map_take, List.map_drop, Nat.mul_comm 64]
  rwa [Nat.mul_one, Nat.mul_one] at this
theorem Does.shp {E : Env} {H : List HProp} {P : Program} {g : FuncId} {args : Array Value} {t : TypeId} {sz m : Nat} {vs : List Value} (h : Does P g args E H fun r H' => H' = [osl t sz r m vs] ∧ IsSl r) : Does P g args E H fun r H' => ∃ a c, r = .slice a m c ∧ H' = [osl t sz (.slice a m c) m vs] := fun w s =>
  (h w s).mono fun _ _ ⟨v, H', e, q, s'⟩ => by
    obtain ⟨rfl, _⟩ := q
    obtain ⟨a, c, rfl⟩ := Sl.shape (Sl.osl 0 rfl) _ s'
    exact ⟨_, _, e, ⟨a, c, rfl, rfl⟩, s'⟩
theorem cloneB2_ok (E : Env) (v : Value) (m : Nat) (vs : List Value) (h : Sl E [] 1 v m vs) (h1 : vs.all (·.oneCell') = true) (hb : m ≤ 140737488355328) : Does Try.prog 90 #[v] E [] fun r H' => ∃ a c, r = .slice a m c ∧ H' = [osl 5 1 (.slice a m c) m vs] := Does.shp (cloneB_ok E v m vs h h1 (by omega))
theorem cloneI2_ok (E : Env) (v : Value) (m : Nat) (vs : List Value) (h : Sl E [] 1 v m vs) (h1 : vs.all (·.oneCell') = true) (hb : m ≤ 17592186044416) : Does Try.prog 100 #[v] E [] fun r H' => ∃ a c, r = .slice a m c ∧ H' = [osl 3 1 (.slice a m c) m vs] := Does.shp (cloneI_ok E v m vs h h1 (by omega))
theorem ints_one (l : List Nat) : (ints l).all (·.oneCell') = true := by simp [ints, Value.oneCell']
theorem sNext_y (E : Env) (b : Nat) (z : Snd) (ok : z.Ok) (a : Option Addr) (c : Nat) (hst : z.st = 0) : Does Try.prog 45 #[.pointer (some ⟨b, 0, none⟩)] E ([own b (.bool true :: .int .u64 z.id :: .string z.nm :: .int .i64 (z.bs.length : Nat) :: .int .u8 (z.sm 0) :: .int .u8 (z.sm 1) :: .int .u8 (z.sm 2) :: .int .u8 (z.sm 3) :: .int .u8 (z.sm 4) :: .int .u8 (z.sm 5) :: .int .u8 (z.sm 6) :: .int .u8 (z.sm 7) :: .int .u8 (z.sm 8) :: .int .u8 (z.sm 9) :: .int .u8 (z.sm 10) :: .int .u8 (z.sm 11) :: .int .u8 (z.sm 12) :: .int .u8 (z.sm 13) :: .int .u8 (z.sm 14) :: .int .u8 (z.sm 15) :: .int .u8 (z.sm 16) :: .int .u8 (z.sm 17) :: .int .u8 (z.sm 18) :: .int .u8 (z.sm 19) :: .int .u8 (z.sm 20) :: .int .u8 (z.sm 21) :: .int .u8 (z.sm 22) :: .int .u8 (z.sm 23) :: .int .u8 (z.sm 24) :: .int .u8 (z.sm 25) :: .int .u8 (z.sm 26) :: .int .u8 (z.sm 27) :: .int .u8 (z.sm 28) :: .int .u8 (z.sm 29) :: .int .u8 (z.sm 30) :: .int .u8 (z.sm 31) :: .slice a z.bs.length c :: .int .i64 z.n :: .int .u64 z.x :: .int .i64 z.pos :: .bool z.gone :: []) 104, osl 5 1 (.slice a z.bs.length c) z.bs.length (z.bs.map (.int .u8))]) fun r H' => ∃ a2 c2, r = .tuple #[.int .i64 z.nxt, .slice a2 (lenN z.bs.length z.nxt) c2, .bool true] ∧ H' = [own b (.bool true :: .int .u64 z.id :: .string z.nm :: .int .i64 (z.bs.length : Nat) :: .int .u8 (z.sm 0) :: .int .u8 (z.sm 1) :: .int .u8 (z.sm 2) :: .int .u8 (z.sm 3) :: .int .u8 (z.sm 4) :: .int .u8 (z.sm 5) :: .int .u8 (z.sm 6) :: .int .u8 (z.sm 7) :: .int .u8 (z.sm 8) :: .int .u8 (z.sm 9) :: .int .u8 (z.sm 10) :: .int .u8 (z.sm 11) :: .int .u8 (z.sm 12) :: .int .u8 (z.sm 13) :: .int .u8 (z.sm 14) :: .int .u8 (z.sm 15) :: .int .u8 (z.sm 16) :: .int .u8 (z.sm 17) :: .int .u8 (z.sm 18) :: .int .u8 (z.sm 19) :: .int .u8 (z.sm 20) :: .int .u8 (z.sm 21) :: .int .u8 (z.sm 22) :: .int .u8 (z.sm 23) :: .int .u8 (z.sm 24) :: .int .u8 (z.sm 25) :: .int .u8 (z.sm 26) :: .int .u8 (z.sm 27) :: .int .u8 (z.sm 28) :: .int .u8 (z.sm 29) :: .int .u8 (z.sm 30) :: .int .u8 (z.sm 31) :: .slice a z.bs.length c :: .int .i64 z.n :: .int .u64 z.x :: .int .i64 ((z.nxt + 1 : Nat) : Int) :: .bool z.gone :: []) 104, osl 5 1 (.slice a z.bs.length c) z.bs.length (z.bs.map (.int .u8)), osl 5 1 (.slice a2 (lenN z.bs.length z.nxt) c2) (lenN z.bs.length z.nxt) ((chunk z.bs z.nxt).map (.int .u8))] := by
  have hi : z.nxt < (z.bs.length + 63) / 64 := Snd.nxt_lt ok hst
  have hl := ok.len
  have hc := lenN_le hi
  refine Does.go _ _ Try.func45 rfl Try.ntmps45 rfl rfl ?_
  refine Body.seq ?_
  refine Body.region ?_
  refine Ops.u (Dtu.asg (lk rfl)) rfl ?_
  refine Ops.u (Dtu.asg (lk rfl)) rfl ?_
  refine Ops.u (Dtu.asg (lk rfl)) rfl ?_
  refine Ops.nil ?_
  refine Then.next ?_
  refine Body.seq ?_
  refine Body.region ?_
  refine Ops.u (Dtu.mv (lk rfl)) rfl ?_
  refine Ops.s (Stp.callOwn [0] rfl rfl Try.call92 (lks rfl) (fun E' le hat => snextY_b E' _ _ (by first | assumption | omega) _ _ (by first | assumption | omega)) ?_) rfl
  rintro _ _ ⟨rfl, rfl⟩
  refine Ops.u (Dtu.asg (lk rfl)) rfl ?_
  refine Ops.nil ?_
  refine Then.next ?_
  refine Body.seq ?_
  refine Body.seq ?_
  refine Body.region ?_
  refine Ops.u (Dtu.mv (lk rfl)) rfl ?_
  refine Ops.u (Dtu.lss (lk rfl) (lk rfl)) rfl ?_
  refine Ops.nil ?_
  refine Then.next ?_
  refine Body.condP (lk rfl) (fun hy => absurd hy (by first | omega | assumption | decide)) (fun _ => ?_)
  refine Body.skip ?_
  refine Then.next ?_
  refine Body.seq ?_
  refine Body.region ?_
  refine Ops.u (Dtu.mv (lk rfl)) rfl ?_
  refine Ops.u (Dtu.mv (lk rfl)) rfl ?_
  refine Ops.u (Dtu.add (lk rfl) (lk rfl) (w64 (by omega) (by omega))) rfl ?_
  refine Ops.u (Dtu.nilck (lk rfl)) rfl ?_
  refine Ops.u (Dtu.fld fa104_4 (lk rfl)) rfl ?_
  refine Ops.e (Stp.store 0 Try.sizeOf3 (lk rfl) (lk rfl) rfl rfl rfl rfl rfl rfl rfl ?_)
  refine Ops.nil ?_
  refine Then.next ?_
  refine Body.seq ?_
  refine Body.region ?_
  refine Ops.u (Dtu.mv (lk rfl)) rfl ?_
  refine Ops.u (Dtu.mul (lk rfl) (lk rfl) (w64 (by omega) (by omega))) rfl ?_
  refine Ops.u (Dtu.asg (lk rfl)) rfl ?_
  refine Ops.nil ?_
  refine Then.next ?_
  refine Body.seq ?_
  refine Body.region ?_
  refine Ops.u (Dtu.mv (lk rfl)) rfl ?_
  refine Ops.u (Dtu.mv (lk rfl)) rfl ?_
  refine Ops.u (Dtu.nilck (lk rfl)) rfl ?_
  refine Ops.u (Dtu.fld fa104_1 (lk rfl)) rfl ?_
  refine Ops.u (Dtu.fld fa82_2 (lk rfl)) rfl ?_
  refine Ops.d (Det.ld Try.isAgg3 (lk rfl) (Rd.ow 0 rfl rfl)) rfl ?_
  refine Ops.u (Dtu.mv (lk rfl)) rfl ?_
  refine Ops.s (Stp.call rfl Try.call63 (lks rfl) (fun E' le hat => slengthN_ok E' _ _ (by first | assumption | omega) (by first | assumption | omega)) ?_) rfl
  rintro _ _ ⟨rfl, rfl⟩
  refine Ops.u (Dtu.add (lk rfl) (lk rfl) (w64 (by omega) (by omega))) rfl ?_
  refine Ops.u (Dtu.asg (lk rfl)) rfl ?_
  refine Ops.nil ?_
  refine Then.next ?_
  refine Body.seq ?_
  refine Body.region ?_
  refine Ops.u (Dtu.mv (lk rfl)) rfl ?_
  refine Ops.u (Dtu.mv (lk rfl)) rfl ?_
  refine Ops.u (Dtu.nilck (lk rfl)) rfl ?_
  refine Ops.u (Dtu.fld fa104_2 (lk rfl)) rfl ?_
  refine Ops.d (Det.ld Try.isAgg73 (lk rfl) (Rd.ow 0 rfl rfl)) rfl ?_
  refine Ops.u (Dtu.mv (lk rfl)) rfl ?_
  refine Ops.u (Dtu.mv (lk rfl)) rfl ?_
  refine Ops.u (Dtu.mv (lk rfl)) rfl ?_
  refine Ops.u (Dtu.slLHM (z.nxt * 64) (z.nxt * 64 + lenN z.bs.length z.nxt) (z.nxt * 64 + lenN z.bs.length z.nxt) Try.underlying73 Try.sizeOf5 (Sl.osl 1 rfl) (lk rfl) (lk rfl) (lk rfl) (lk rfl) (by omega) (by omega) (by omega) (by omega) (by omega) (by omega)) rfl ?_
  refine Ops.s (Stp.call rfl Try.call90 (lks rfl) (fun E' le hat => cloneB2_ok E' _ _ ((chunk z.bs z.nxt).map (.int .u8)) (Sl.chunk (Sl.hatI hat 1 rfl) hi) (u8s_one _) (by omega)) ?_) rfl
  rintro _ _ ⟨ca37, cc37, rfl, rfl⟩
  refine Ops.u (Dtu.asg (lk rfl)) rfl ?_
  refine Ops.u (Dtu.asg (lk rfl)) rfl ?_
  refine Ops.u (Dtu.asg (lk rfl)) rfl ?_
  refine Ops.nil ?_
  refine Then.next ?_
  refine Body.ret ?_
  exact ⟨.inr rfl, _, pk [1, 1, 0] rfl, _, _, rfl, rfl⟩
theorem sNext_n (E : Env) (b : Nat) (z : Snd) (ok : z.Ok) (a : Option Addr) (c : Nat) (hst : ¬ z.st = 0) : Does Try.prog 45 #[.pointer (some ⟨b, 0, none⟩)] E ([own b (.bool true :: .int .u64 z.id :: .string z.nm :: .int .i64 (z.bs.length : Nat) :: .int .u8 (z.sm 0) :: .int .u8 (z.sm 1) :: .int .u8 (z.sm 2) :: .int .u8 (z.sm 3) :: .int .u8 (z.sm 4) :: .int .u8 (z.sm 5) :: .int .u8 (z.sm 6) :: .int .u8 (z.sm 7) :: .int .u8 (z.sm 8) :: .int .u8 (z.sm 9) :: .int .u8 (z.sm 10) :: .int .u8 (z.sm 11) :: .int .u8 (z.sm 12) :: .int .u8 (z.sm 13) :: .int .u8 (z.sm 14) :: .int .u8 (z.sm 15) :: .int .u8 (z.sm 16) :: .int .u8 (z.sm 17) :: .int .u8 (z.sm 18) :: .int .u8 (z.sm 19) :: .int .u8 (z.sm 20) :: .int .u8 (z.sm 21) :: .int .u8 (z.sm 22) :: .int .u8 (z.sm 23) :: .int .u8 (z.sm 24) :: .int .u8 (z.sm 25) :: .int .u8 (z.sm 26) :: .int .u8 (z.sm 27) :: .int .u8 (z.sm 28) :: .int .u8 (z.sm 29) :: .int .u8 (z.sm 30) :: .int .u8 (z.sm 31) :: .slice a z.bs.length c :: .int .i64 z.n :: .int .u64 z.x :: .int .i64 z.pos :: .bool z.gone :: []) 104]) fun r H' => r = .tuple #[.int .i64 0, .slice none 0 0, .bool false] ∧ H' = [own b (.bool true :: .int .u64 z.id :: .string z.nm :: .int .i64 (z.bs.length : Nat) :: .int .u8 (z.sm 0) :: .int .u8 (z.sm 1) :: .int .u8 (z.sm 2) :: .int .u8 (z.sm 3) :: .int .u8 (z.sm 4) :: .int .u8 (z.sm 5) :: .int .u8 (z.sm 6) :: .int .u8 (z.sm 7) :: .int .u8 (z.sm 8) :: .int .u8 (z.sm 9) :: .int .u8 (z.sm 10) :: .int .u8 (z.sm 11) :: .int .u8 (z.sm 12) :: .int .u8 (z.sm 13) :: .int .u8 (z.sm 14) :: .int .u8 (z.sm 15) :: .int .u8 (z.sm 16) :: .int .u8 (z.sm 17) :: .int .u8 (z.sm 18) :: .int .u8 (z.sm 19) :: .int .u8 (z.sm 20) :: .int .u8 (z.sm 21) :: .int .u8 (z.sm 22) :: .int .u8 (z.sm 23) :: .int .u8 (z.sm 24) :: .int .u8 (z.sm 25) :: .int .u8 (z.sm 26) :: .int .u8 (z.sm 27) :: .int .u8 (z.sm 28) :: .int .u8 (z.sm 29) :: .int .u8 (z.sm 30) :: .int .u8 (z.sm 31) :: .slice a z.bs.length c :: .int .i64 z.n :: .int .u64 z.x :: .int .i64 z.pos :: .bool z.gone :: []) 104] := by
  have h0 := Snd.next_no hst
  refine Does.go _ _ Try.func45 rfl Try.ntmps45 rfl rfl ?_
  refine Body.seq ?_
  refine Body.region ?_
  refine Ops.u (Dtu.asg (lk rfl)) rfl ?_
  refine Ops.u (Dtu.asg (lk rfl)) rfl ?_
  refine Ops.u (Dtu.asg (lk rfl)) rfl ?_
  refine Ops.nil ?_
  refine Then.next ?_
  refine Body.seq ?_
  refine Body.region ?_
  refine Ops.u (Dtu.mv (lk rfl)) rfl ?_
  refine Ops.s (Stp.callOwn [0] rfl rfl Try.call92 (lks rfl) (fun E' le hat => snext_b E' _ _ (by first | assumption | omega) _ _) ?_) rfl
  rintro _ _ ⟨rfl, rfl⟩
  refine Ops.u (Dtu.asg (lk rfl)) rfl ?_
  refine Ops.nil ?_
  refine Then.next ?_
  refine Body.seq ?_
  refine Body.seq ?_
  refine Body.region ?_
  refine Ops.u (Dtu.mv (lk rfl)) rfl ?_
  refine Ops.u (Dtu.lss (lk rfl) (lk rfl)) rfl ?_
  refine Ops.nil ?_
  refine Then.next ?_
  refine Body.condP (lk rfl) (fun _ => ?_) (fun hn => absurd (by first | omega | assumption | decide) hn)
  refine Body.seq ?_
  refine Body.region ?_
  refine Ops.u (Dtu.asg (lk rfl)) rfl ?_
  refine Ops.u (Dtu.asg (lk rfl)) rfl ?_
  refine Ops.u (Dtu.asg (lk rfl)) rfl ?_
  refine Ops.nil ?_
  refine Then.next ?_
  refine Body.ret ?_
  refine Then.ret ?_
  exact ⟨.inr rfl, _, pk [0] rfl, rfl, rfl⟩
theorem Snd.Ok.or {z : Snd} (ok : z.Ok) {n x : Int} (hx : U64 x) (hr : bmR n x = true) (hn : n = z.n) : (⟨z.id, z.nm, z.bs, z.sm, z.x ||| x.toNat, z.pos, z.gone⟩ : Snd).Ok :=
  ⟨ok.len, Nat.or_lt_two_pow ok.x (by have := bmR_lt hr hx.1; rw [hn, Int.toNat_natCast] at this; exact this)⟩
theorem sknow_y (E : Env) (b : Nat) (z : Snd) (ok : z.Ok) (a : Option Addr) (c : Nat) (n x : Int) (hx : U64 x) (hr : bmR n x = true) (hn : n = z.n) (hg : z.gone = false) : Does Try.prog 46 #[.pointer (some ⟨b, 0, none⟩), .agg #[.int .i64 n, .int .u64 x]] E ([own b (.bool true :: .int .u64 z.id :: .string z.nm :: .int .i64 (z.bs.length : Nat) :: .int .u8 (z.sm 0) :: .int .u8 (z.sm 1) :: .int .u8 (z.sm 2) :: .int .u8 (z.sm 3) :: .int .u8 (z.sm 4) :: .int .u8 (z.sm 5) :: .int .u8 (z.sm 6) :: .int .u8 (z.sm 7) :: .int .u8 (z.sm 8) :: .int .u8 (z.sm 9) :: .int .u8 (z.sm 10) :: .int .u8 (z.sm 11) :: .int .u8 (z.sm 12) :: .int .u8 (z.sm 13) :: .int .u8 (z.sm 14) :: .int .u8 (z.sm 15) :: .int .u8 (z.sm 16) :: .int .u8 (z.sm 17) :: .int .u8 (z.sm 18) :: .int .u8 (z.sm 19) :: .int .u8 (z.sm 20) :: .int .u8 (z.sm 21) :: .int .u8 (z.sm 22) :: .int .u8 (z.sm 23) :: .int .u8 (z.sm 24) :: .int .u8 (z.sm 25) :: .int .u8 (z.sm 26) :: .int .u8 (z.sm 27) :: .int .u8 (z.sm 28) :: .int .u8 (z.sm 29) :: .int .u8 (z.sm 30) :: .int .u8 (z.sm 31) :: .slice a z.bs.length c :: .int .i64 z.n :: .int .u64 z.x :: .int .i64 z.pos :: .bool z.gone :: []) 104]) fun r H' => r = .int .i64 0 ∧ H' = [own b (.bool true :: .int .u64 z.id :: .string z.nm :: .int .i64 (z.bs.length : Nat) :: .int .u8 (z.sm 0) :: .int .u8 (z.sm 1) :: .int .u8 (z.sm 2) :: .int .u8 (z.sm 3) :: .int .u8 (z.sm 4) :: .int .u8 (z.sm 5) :: .int .u8 (z.sm 6) :: .int .u8 (z.sm 7) :: .int .u8 (z.sm 8) :: .int .u8 (z.sm 9) :: .int .u8 (z.sm 10) :: .int .u8 (z.sm 11) :: .int .u8 (z.sm 12) :: .int .u8 (z.sm 13) :: .int .u8 (z.sm 14) :: .int .u8 (z.sm 15) :: .int .u8 (z.sm 16) :: .int .u8 (z.sm 17) :: .int .u8 (z.sm 18) :: .int .u8 (z.sm 19) :: .int .u8 (z.sm 20) :: .int .u8 (z.sm 21) :: .int .u8 (z.sm 22) :: .int .u8 (z.sm 23) :: .int .u8 (z.sm 24) :: .int .u8 (z.sm 25) :: .int .u8 (z.sm 26) :: .int .u8 (z.sm 27) :: .int .u8 (z.sm 28) :: .int .u8 (z.sm 29) :: .int .u8 (z.sm 30) :: .int .u8 (z.sm 31) :: .slice a z.bs.length c :: .int .i64 z.n :: .int .u64 ((z.x ||| x.toNat : Nat) : Int) :: .int .i64 z.pos :: .bool z.gone :: []) 104] := by
  subst hn
  have ha : askF (bmR z.n x) z.n z.n z.gone = 0 := by rw [hr, hg]; simp [askF]
  have ho : orB z.x x = ((z.x ||| x.toNat : Nat) : Int) := by unfold orB; rw [Int.toNat_natCast]
  have hzr := ok.r
  have hzu := ok.u
  refine Does.go _ _ Try.func46 rfl Try.ntmps46 rfl rfl ?_
  refine Body.seq ?_
  refine Body.region ?_
  refine Ops.s (Stp.box (lk rfl) rfl (fun b3 => ?_)) rfl
  refine Ops.u (Dtu.asg (lk rfl)) rfl ?_
  refine Ops.nil ?_
  refine Then.next ?_
  refine Body.seq ?_
  refine Body.seq ?_
  refine Body.region ?_
  refine Ops.u (Dtu.mv (lk rfl)) rfl ?_
  refine Ops.d (Det.lda Try.isAgg86 Try.sizeOf86 (lk rfl) (Rds.ow (m := 2) 0 rfl rfl) rfl) rfl ?_
  refine Ops.s (Stp.callOwn [1] rfl rfl Try.call93 (lks rfl) (fun E' le hat => sask_b E' _ _ (by first | assumption | omega) _ _ _ _ (by first | assumption | omega)) ?_) rfl
  rintro _ _ ⟨rfl, rfl⟩
  refine Ops.u (Dtu.asg (lk rfl)) rfl ?_
  refine Ops.nil ?_
  refine Then.next ?_
  refine Body.seq ?_
  refine Body.region ?_
  refine Ops.u (Dtu.mv (lk rfl)) rfl ?_
  refine Ops.u (Dtu.neq (lk rfl) (lk rfl)) rfl ?_
  refine Ops.nil ?_
  refine Then.next ?_
  refine Body.condP (lk rfl) (fun hy => absurd hy (by first | omega | assumption | decide)) (fun _ => ?_)
  refine Body.skip ?_
  refine Then.next ?_
  refine Body.seq ?_
  refine Body.drawE [0, 0] mixed rfl ?_
  rintro E4' le4 ⟨hA4_0, hA4_1, -⟩
  refine AE.u 0 rfl (by decide +kernel) (Dtu.mv (lk rfl)) rfl ?_
  refine AE.u 1 rfl (by decide +kernel) (Dtu.nilck (lk rfl)) rfl ?_
  refine AE.u 2 rfl (by decide +kernel) (Dtu.fld fa104_3 (lk rfl)) rfl ?_
  refine AE.d 3 rfl (by decide +kernel) (Det.lda Try.isAgg86 Try.sizeOf86 (lk rfl) (Rds.at (m := 2) hA4_0 rfl) rfl) rfl ?_
  refine AE.d 4 rfl (by decide +kernel) (Det.lda Try.isAgg86 Try.sizeOf86 (lk rfl) (Rds.at (m := 2) hA4_1 rfl) rfl) rfl ?_
  refine AE.more [5, 9] (by decide +kernel) rfl ⟨?_, ?_, trivial⟩
  · refine AEI.s rfl (Stp.call rfl Try.call94 (lks rfl) (fun E' le hat => bor_ok E' _ _ _ (by first | assumption | omega) (by first | assumption | omega) (by first | assumption | omega) (by first | assumption | omega)) ?_) rfl
    rintro _ _ ⟨rfl, rfl⟩
    refine AE.u 6 rfl (by decide +kernel) (Dtu.mv (lk rfl)) rfl ?_
    refine AE.u 7 rfl (by decide +kernel) (Dtu.ext (lk rfl) rfl) rfl ?_
    refine AE.u 8 rfl (by decide +kernel) (Dtu.ext (lk rfl) rfl) rfl ?_
    refine AE.more [9] (by decide +kernel) rfl ⟨?_, trivial⟩
    refine AEI.s rfl (Stp.alloc ty86 (fun b6 => ?_)) rfl
    refine AE.more [10] (by decide +kernel) rfl ⟨?_, trivial⟩
    refine AEI.e rfl (Stp.store 0 Try.sizeOf86 (lk rfl) (lk rfl) rfl rfl rfl rfl rfl rfl rfl ?_)
    refine AE.u 11 rfl (by decide +kernel) (Dtu.asg (lk rfl)) rfl ?_
    refine AE.done (by decide +kernel) ?_
    refine Then.next ?_
    refine Body.seq ?_
    refine Body.seq ?_
    refine Body.region ?_
    refine Ops.u (Dtu.mv (lk rfl)) rfl ?_
    refine Ops.u (Dtu.eql (lk rfl) (lk rfl)) rfl ?_
    refine Ops.nil ?_
    refine Then.next ?_
    refine Body.condP (lk rfl) (fun _ => ?_) (fun hn => absurd (by first | omega | assumption | decide) hn)
    refine Body.region ?_
    refine Ops.u (Dtu.mv (lk rfl)) rfl ?_
    refine Ops.d (Det.lda Try.isAgg86 Try.sizeOf86 (lk rfl) (Rds.ow (m := 2) 0 rfl rfl) rfl) rfl ?_
    refine Ops.u (Dtu.nilck (lk rfl)) rfl ?_
    refine Ops.u (Dtu.fld fa104_3 (lk rfl)) rfl ?_
    refine Ops.e (Stp.store 1 Try.sizeOf86 (lk rfl) (lk rfl) rfl rfl rfl rfl rfl rfl rfl ?_)
    refine Ops.nil ?_
    refine Then.next ?_
    refine Body.seq ?_
    refine Body.region ?_
    refine Ops.u (Dtu.mv (lk rfl)) rfl ?_
    refine Ops.u (Dtu.asg (lk rfl)) rfl ?_
    refine Ops.nil ?_
    refine Then.next ?_
    refine Body.ret ?_
    exact ⟨.inr rfl, _, pk [1] rfl, rfl, rfl⟩
  · refine AEI.s rfl (Stp.alloc ty86 (fun b6 => ?_)) rfl
    refine AE.more [5] (by decide +kernel) rfl ⟨?_, trivial⟩
    refine AEI.s rfl (Stp.call rfl Try.call94 (lks rfl) (fun E' le hat => bor_ok E' _ _ _ (by first | assumption | omega) (by first | assumption | omega) (by first | assumption | omega) (by first | assumption | omega)) ?_) rfl
    rintro _ _ ⟨rfl, rfl⟩
    refine AE.u 6 rfl (by decide +kernel) (Dtu.mv (lk rfl)) rfl ?_
    refine AE.u 7 rfl (by decide +kernel) (Dtu.ext (lk rfl) rfl) rfl ?_
    refine AE.u 8 rfl (by decide +kernel) (Dtu.ext (lk rfl) rfl) rfl ?_
    refine AE.more [10] (by decide +kernel) rfl ⟨?_, trivial⟩
    refine AEI.e rfl (Stp.store 0 Try.sizeOf86 (lk rfl) (lk rfl) rfl rfl rfl rfl rfl rfl rfl ?_)
    refine AE.u 11 rfl (by decide +kernel) (Dtu.asg (lk rfl)) rfl ?_
    refine AE.done (by decide +kernel) ?_
    refine Then.next ?_
    refine Body.seq ?_
    refine Body.seq ?_
    refine Body.region ?_
    refine Ops.u (Dtu.mv (lk rfl)) rfl ?_
    refine Ops.u (Dtu.eql (lk rfl) (lk rfl)) rfl ?_
    refine Ops.nil ?_
    refine Then.next ?_
    refine Body.condP (lk rfl) (fun _ => ?_) (fun hn => absurd (by first | omega | assumption | decide) hn)
    refine Body.region ?_
    refine Ops.u (Dtu.mv (lk rfl)) rfl ?_
    refine Ops.d (Det.lda Try.isAgg86 Try.sizeOf86 (lk rfl) (Rds.ow (m := 2) 0 rfl rfl) rfl) rfl ?_
    refine Ops.u (Dtu.nilck (lk rfl)) rfl ?_
    refine Ops.u (Dtu.fld fa104_3 (lk rfl)) rfl ?_
    refine Ops.e (Stp.store 1 Try.sizeOf86 (lk rfl) (lk rfl) rfl rfl rfl rfl rfl rfl rfl ?_)
    refine Ops.nil ?_
    refine Then.next ?_
    refine Body.seq ?_
    refine Body.region ?_
    refine Ops.u (Dtu.mv (lk rfl)) rfl ?_
    refine Ops.u (Dtu.asg (lk rfl)) rfl ?_
    refine Ops.nil ?_
    refine Then.next ?_
    refine Body.ret ?_
    exact ⟨.inr rfl, _, pk [1] rfl, rfl, rfl⟩
theorem sknow_n (E : Env) (b : Nat) (z : Snd) (ok : z.Ok) (a : Option Addr) (c : Nat) (n x : Int) (hx : U64 x) (ha : askF (bmR n x) n z.n z.gone ≠ 0) : Does Try.prog 46 #[.pointer (some ⟨b, 0, none⟩), .agg #[.int .i64 n, .int .u64 x]] E ([own b (.bool true :: .int .u64 z.id :: .string z.nm :: .int .i64 (z.bs.length : Nat) :: .int .u8 (z.sm 0) :: .int .u8 (z.sm 1) :: .int .u8 (z.sm 2) :: .int .u8 (z.sm 3) :: .int .u8 (z.sm 4) :: .int .u8 (z.sm 5) :: .int .u8 (z.sm 6) :: .int .u8 (z.sm 7) :: .int .u8 (z.sm 8) :: .int .u8 (z.sm 9) :: .int .u8 (z.sm 10) :: .int .u8 (z.sm 11) :: .int .u8 (z.sm 12) :: .int .u8 (z.sm 13) :: .int .u8 (z.sm 14) :: .int .u8 (z.sm 15) :: .int .u8 (z.sm 16) :: .int .u8 (z.sm 17) :: .int .u8 (z.sm 18) :: .int .u8 (z.sm 19) :: .int .u8 (z.sm 20) :: .int .u8 (z.sm 21) :: .int .u8 (z.sm 22) :: .int .u8 (z.sm 23) :: .int .u8 (z.sm 24) :: .int .u8 (z.sm 25) :: .int .u8 (z.sm 26) :: .int .u8 (z.sm 27) :: .int .u8 (z.sm 28) :: .int .u8 (z.sm 29) :: .int .u8 (z.sm 30) :: .int .u8 (z.sm 31) :: .slice a z.bs.length c :: .int .i64 z.n :: .int .u64 z.x :: .int .i64 z.pos :: .bool z.gone :: []) 104]) fun r H' => r = .int .i64 (askF (bmR n x) n z.n z.gone) ∧ H' = [own b (.bool true :: .int .u64 z.id :: .string z.nm :: .int .i64 (z.bs.length : Nat) :: .int .u8 (z.sm 0) :: .int .u8 (z.sm 1) :: .int .u8 (z.sm 2) :: .int .u8 (z.sm 3) :: .int .u8 (z.sm 4) :: .int .u8 (z.sm 5) :: .int .u8 (z.sm 6) :: .int .u8 (z.sm 7) :: .int .u8 (z.sm 8) :: .int .u8 (z.sm 9) :: .int .u8 (z.sm 10) :: .int .u8 (z.sm 11) :: .int .u8 (z.sm 12) :: .int .u8 (z.sm 13) :: .int .u8 (z.sm 14) :: .int .u8 (z.sm 15) :: .int .u8 (z.sm 16) :: .int .u8 (z.sm 17) :: .int .u8 (z.sm 18) :: .int .u8 (z.sm 19) :: .int .u8 (z.sm 20) :: .int .u8 (z.sm 21) :: .int .u8 (z.sm 22) :: .int .u8 (z.sm 23) :: .int .u8 (z.sm 24) :: .int .u8 (z.sm 25) :: .int .u8 (z.sm 26) :: .int .u8 (z.sm 27) :: .int .u8 (z.sm 28) :: .int .u8 (z.sm 29) :: .int .u8 (z.sm 30) :: .int .u8 (z.sm 31) :: .slice a z.bs.length c :: .int .i64 z.n :: .int .u64 z.x :: .int .i64 z.pos :: .bool z.gone :: []) 104] := by
  refine Does.go _ _ Try.func46 rfl Try.ntmps46 rfl rfl ?_
  refine Body.seq ?_
  refine Body.region ?_
  refine Ops.s (Stp.box (lk rfl) rfl (fun b3 => ?_)) rfl
  refine Ops.u (Dtu.asg (lk rfl)) rfl ?_
  refine Ops.nil ?_
  refine Then.next ?_
  refine Body.seq ?_
  refine Body.seq ?_
  refine Body.region ?_
  refine Ops.u (Dtu.mv (lk rfl)) rfl ?_
  refine Ops.d (Det.lda Try.isAgg86 Try.sizeOf86 (lk rfl) (Rds.ow (m := 2) 0 rfl rfl) rfl) rfl ?_
  refine Ops.s (Stp.callOwn [1] rfl rfl Try.call93 (lks rfl) (fun E' le hat => sask_b E' _ _ (by first | assumption | omega) _ _ _ _ (by first | assumption | omega)) ?_) rfl
  rintro _ _ ⟨rfl, rfl⟩
  refine Ops.u (Dtu.asg (lk rfl)) rfl ?_
  refine Ops.nil ?_
  refine Then.next ?_
  refine Body.seq ?_
  refine Body.region ?_
  refine Ops.u (Dtu.mv (lk rfl)) rfl ?_
  refine Ops.u (Dtu.neq (lk rfl) (lk rfl)) rfl ?_
  refine Ops.nil ?_
  refine Then.next ?_
  refine Body.condP (lk rfl) (fun _ => ?_) (fun hn => absurd (by first | omega | assumption | decide) hn)
  refine Body.seq ?_
  refine Body.region ?_
  refine Ops.u (Dtu.mv (lk rfl)) rfl ?_
  refine Ops.u (Dtu.asg (lk rfl)) rfl ?_
  refine Ops.nil ?_
  refine Then.next ?_
  refine Body.ret ?_
  refine Then.ret ?_
  exact ⟨.inr rfl, _, pk [0] rfl, rfl, rfl⟩
theorem sanew_y (E : Env) (b : Nat) (z : Snd) (ok : z.Ok) (a : Option Addr) (c : Nat) (n : Int) (x : Nat) (hx : U64 x) (hr : bmR n x = true) (hn : n = z.n) (hg : z.gone = false) : Does Try.prog 48 #[.pointer (some ⟨b, 0, none⟩), .agg #[.int .i64 n, .int .u64 x]] E ([own b (.bool true :: .int .u64 z.id :: .string z.nm :: .int .i64 (z.bs.length : Nat) :: .int .u8 (z.sm 0) :: .int .u8 (z.sm 1) :: .int .u8 (z.sm 2) :: .int .u8 (z.sm 3) :: .int .u8 (z.sm 4) :: .int .u8 (z.sm 5) :: .int .u8 (z.sm 6) :: .int .u8 (z.sm 7) :: .int .u8 (z.sm 8) :: .int .u8 (z.sm 9) :: .int .u8 (z.sm 10) :: .int .u8 (z.sm 11) :: .int .u8 (z.sm 12) :: .int .u8 (z.sm 13) :: .int .u8 (z.sm 14) :: .int .u8 (z.sm 15) :: .int .u8 (z.sm 16) :: .int .u8 (z.sm 17) :: .int .u8 (z.sm 18) :: .int .u8 (z.sm 19) :: .int .u8 (z.sm 20) :: .int .u8 (z.sm 21) :: .int .u8 (z.sm 22) :: .int .u8 (z.sm 23) :: .int .u8 (z.sm 24) :: .int .u8 (z.sm 25) :: .int .u8 (z.sm 26) :: .int .u8 (z.sm 27) :: .int .u8 (z.sm 28) :: .int .u8 (z.sm 29) :: .int .u8 (z.sm 30) :: .int .u8 (z.sm 31) :: .slice a z.bs.length c :: .int .i64 z.n :: .int .u64 z.x :: .int .i64 z.pos :: .bool z.gone :: []) 104]) fun r H' => r = .int .i64 0 ∧ H' = [own b (.bool true :: .int .u64 z.id :: .string z.nm :: .int .i64 (z.bs.length : Nat) :: .int .u8 (z.sm 0) :: .int .u8 (z.sm 1) :: .int .u8 (z.sm 2) :: .int .u8 (z.sm 3) :: .int .u8 (z.sm 4) :: .int .u8 (z.sm 5) :: .int .u8 (z.sm 6) :: .int .u8 (z.sm 7) :: .int .u8 (z.sm 8) :: .int .u8 (z.sm 9) :: .int .u8 (z.sm 10) :: .int .u8 (z.sm 11) :: .int .u8 (z.sm 12) :: .int .u8 (z.sm 13) :: .int .u8 (z.sm 14) :: .int .u8 (z.sm 15) :: .int .u8 (z.sm 16) :: .int .u8 (z.sm 17) :: .int .u8 (z.sm 18) :: .int .u8 (z.sm 19) :: .int .u8 (z.sm 20) :: .int .u8 (z.sm 21) :: .int .u8 (z.sm 22) :: .int .u8 (z.sm 23) :: .int .u8 (z.sm 24) :: .int .u8 (z.sm 25) :: .int .u8 (z.sm 26) :: .int .u8 (z.sm 27) :: .int .u8 (z.sm 28) :: .int .u8 (z.sm 29) :: .int .u8 (z.sm 30) :: .int .u8 (z.sm 31) :: .slice a z.bs.length c :: .int .i64 z.n :: .int .u64 x :: .int .i64 ((0 : Nat) : Int) :: .bool z.gone :: []) 104] := by
  subst hn
  have ha : askF (bmR z.n x) z.n z.n z.gone = 0 := by rw [hr, hg]; simp [askF]
  refine Does.go _ _ Try.func48 rfl Try.ntmps48 rfl rfl ?_
  refine Body.seq ?_
  refine Body.region ?_
  refine Ops.s (Stp.box (lk rfl) rfl (fun b3 => ?_)) rfl
  refine Ops.u (Dtu.asg (lk rfl)) rfl ?_
  refine Ops.nil ?_
  refine Then.next ?_
  refine Body.seq ?_
  refine Body.region ?_
  refine Ops.u (Dtu.mv (lk rfl)) rfl ?_
  refine Ops.d (Det.lda Try.isAgg86 Try.sizeOf86 (lk rfl) (Rds.ow (m := 2) 0 rfl rfl) rfl) rfl ?_
  refine Ops.s (Stp.callOwn [1] rfl rfl Try.call93 (lks rfl) (fun E' le hat => sask_b E' _ _ (by first | assumption | omega) _ _ _ _ (by first | assumption | omega)) ?_) rfl
  rintro _ _ ⟨rfl, rfl⟩
  refine Ops.u (Dtu.asg (lk rfl)) rfl ?_
  refine Ops.nil ?_
  refine Then.next ?_
  refine Body.seq ?_
  refine Body.seq ?_
  refine Body.region ?_
  refine Ops.u (Dtu.mv (lk rfl)) rfl ?_
  refine Ops.u (Dtu.eql (lk rfl) (lk rfl)) rfl ?_
  refine Ops.nil ?_
  refine Then.next ?_
  refine Body.condP (lk rfl) (fun _ => ?_) (fun hn => absurd (by first | omega | assumption | decide) hn)
  refine Body.region ?_
  refine Ops.u (Dtu.mv (lk rfl)) rfl ?_
  refine Ops.u (Dtu.mv (lk rfl)) rfl ?_
  refine Ops.d (Det.lda Try.isAgg86 Try.sizeOf86 (lk rfl) (Rds.ow (m := 2) 1 rfl rfl) rfl) rfl ?_
  refine Ops.u (Dtu.nilck (lk rfl)) rfl ?_
  refine Ops.u (Dtu.fld fa104_3 (lk rfl)) rfl ?_
  refine Ops.e (Stp.store 0 Try.sizeOf86 (lk rfl) (lk rfl) rfl rfl rfl rfl rfl rfl rfl ?_)
  refine Ops.u (Dtu.nilck (lk rfl)) rfl ?_
  refine Ops.u (Dtu.fld fa104_4 (lk rfl)) rfl ?_
  refine Ops.e (Stp.store 0 Try.sizeOf3 (lk rfl) (lk rfl) rfl rfl rfl rfl rfl rfl rfl ?_)
  refine Ops.nil ?_
  refine Then.next ?_
  refine Body.seq ?_
  refine Body.region ?_
  refine Ops.u (Dtu.mv (lk rfl)) rfl ?_
  refine Ops.u (Dtu.asg (lk rfl)) rfl ?_
  refine Ops.nil ?_
  refine Then.next ?_
  refine Body.ret ?_
  rw [ha]
  exact ⟨.inr rfl, _, pk [0] rfl, rfl, rfl⟩
theorem sanew_n (E : Env) (b : Nat) (z : Snd) (ok : z.Ok) (a : Option Addr) (c : Nat) (n x : Int) (hx : U64 x) (ha : askF (bmR n x) n z.n z.gone ≠ 0) : Does Try.prog 48 #[.pointer (some ⟨b, 0, none⟩), .agg #[.int .i64 n, .int .u64 x]] E ([own b (.bool true :: .int .u64 z.id :: .string z.nm :: .int .i64 (z.bs.length : Nat) :: .int .u8 (z.sm 0) :: .int .u8 (z.sm 1) :: .int .u8 (z.sm 2) :: .int .u8 (z.sm 3) :: .int .u8 (z.sm 4) :: .int .u8 (z.sm 5) :: .int .u8 (z.sm 6) :: .int .u8 (z.sm 7) :: .int .u8 (z.sm 8) :: .int .u8 (z.sm 9) :: .int .u8 (z.sm 10) :: .int .u8 (z.sm 11) :: .int .u8 (z.sm 12) :: .int .u8 (z.sm 13) :: .int .u8 (z.sm 14) :: .int .u8 (z.sm 15) :: .int .u8 (z.sm 16) :: .int .u8 (z.sm 17) :: .int .u8 (z.sm 18) :: .int .u8 (z.sm 19) :: .int .u8 (z.sm 20) :: .int .u8 (z.sm 21) :: .int .u8 (z.sm 22) :: .int .u8 (z.sm 23) :: .int .u8 (z.sm 24) :: .int .u8 (z.sm 25) :: .int .u8 (z.sm 26) :: .int .u8 (z.sm 27) :: .int .u8 (z.sm 28) :: .int .u8 (z.sm 29) :: .int .u8 (z.sm 30) :: .int .u8 (z.sm 31) :: .slice a z.bs.length c :: .int .i64 z.n :: .int .u64 z.x :: .int .i64 z.pos :: .bool z.gone :: []) 104]) fun r H' => r = .int .i64 (askF (bmR n x) n z.n z.gone) ∧ H' = [own b (.bool true :: .int .u64 z.id :: .string z.nm :: .int .i64 (z.bs.length : Nat) :: .int .u8 (z.sm 0) :: .int .u8 (z.sm 1) :: .int .u8 (z.sm 2) :: .int .u8 (z.sm 3) :: .int .u8 (z.sm 4) :: .int .u8 (z.sm 5) :: .int .u8 (z.sm 6) :: .int .u8 (z.sm 7) :: .int .u8 (z.sm 8) :: .int .u8 (z.sm 9) :: .int .u8 (z.sm 10) :: .int .u8 (z.sm 11) :: .int .u8 (z.sm 12) :: .int .u8 (z.sm 13) :: .int .u8 (z.sm 14) :: .int .u8 (z.sm 15) :: .int .u8 (z.sm 16) :: .int .u8 (z.sm 17) :: .int .u8 (z.sm 18) :: .int .u8 (z.sm 19) :: .int .u8 (z.sm 20) :: .int .u8 (z.sm 21) :: .int .u8 (z.sm 22) :: .int .u8 (z.sm 23) :: .int .u8 (z.sm 24) :: .int .u8 (z.sm 25) :: .int .u8 (z.sm 26) :: .int .u8 (z.sm 27) :: .int .u8 (z.sm 28) :: .int .u8 (z.sm 29) :: .int .u8 (z.sm 30) :: .int .u8 (z.sm 31) :: .slice a z.bs.length c :: .int .i64 z.n :: .int .u64 z.x :: .int .i64 z.pos :: .bool z.gone :: []) 104] := by
  refine Does.go _ _ Try.func48 rfl Try.ntmps48 rfl rfl ?_
  refine Body.seq ?_
  refine Body.region ?_
  refine Ops.s (Stp.box (lk rfl) rfl (fun b3 => ?_)) rfl
  refine Ops.u (Dtu.asg (lk rfl)) rfl ?_
  refine Ops.nil ?_
  refine Then.next ?_
  refine Body.seq ?_
  refine Body.region ?_
  refine Ops.u (Dtu.mv (lk rfl)) rfl ?_
  refine Ops.d (Det.lda Try.isAgg86 Try.sizeOf86 (lk rfl) (Rds.ow (m := 2) 0 rfl rfl) rfl) rfl ?_
  refine Ops.s (Stp.callOwn [1] rfl rfl Try.call93 (lks rfl) (fun E' le hat => sask_b E' _ _ (by first | assumption | omega) _ _ _ _ (by first | assumption | omega)) ?_) rfl
  rintro _ _ ⟨rfl, rfl⟩
  refine Ops.u (Dtu.asg (lk rfl)) rfl ?_
  refine Ops.nil ?_
  refine Then.next ?_
  refine Body.seq ?_
  refine Body.seq ?_
  refine Body.region ?_
  refine Ops.u (Dtu.mv (lk rfl)) rfl ?_
  refine Ops.u (Dtu.eql (lk rfl) (lk rfl)) rfl ?_
  refine Ops.nil ?_
  refine Then.next ?_
  refine Body.condP (lk rfl) (fun hy => absurd hy (by first | omega | assumption | decide)) (fun _ => ?_)
  refine Body.skip ?_
  refine Then.next ?_
  refine Body.seq ?_
  refine Body.region ?_
  refine Ops.u (Dtu.mv (lk rfl)) rfl ?_
  refine Ops.u (Dtu.asg (lk rfl)) rfl ?_
  refine Ops.nil ?_
  refine Then.next ?_
  refine Body.ret ?_
  exact ⟨.inr rfl, _, pk [0] rfl, rfl, rfl⟩
theorem scancel_y (E : Env) (b : Nat) (z : Snd) (ok : z.Ok) (a : Option Addr) (c : Nat) (hst : z.st = 0) : Does Try.prog 49 #[.pointer (some ⟨b, 0, none⟩)] E ([own b (.bool true :: .int .u64 z.id :: .string z.nm :: .int .i64 (z.bs.length : Nat) :: .int .u8 (z.sm 0) :: .int .u8 (z.sm 1) :: .int .u8 (z.sm 2) :: .int .u8 (z.sm 3) :: .int .u8 (z.sm 4) :: .int .u8 (z.sm 5) :: .int .u8 (z.sm 6) :: .int .u8 (z.sm 7) :: .int .u8 (z.sm 8) :: .int .u8 (z.sm 9) :: .int .u8 (z.sm 10) :: .int .u8 (z.sm 11) :: .int .u8 (z.sm 12) :: .int .u8 (z.sm 13) :: .int .u8 (z.sm 14) :: .int .u8 (z.sm 15) :: .int .u8 (z.sm 16) :: .int .u8 (z.sm 17) :: .int .u8 (z.sm 18) :: .int .u8 (z.sm 19) :: .int .u8 (z.sm 20) :: .int .u8 (z.sm 21) :: .int .u8 (z.sm 22) :: .int .u8 (z.sm 23) :: .int .u8 (z.sm 24) :: .int .u8 (z.sm 25) :: .int .u8 (z.sm 26) :: .int .u8 (z.sm 27) :: .int .u8 (z.sm 28) :: .int .u8 (z.sm 29) :: .int .u8 (z.sm 30) :: .int .u8 (z.sm 31) :: .slice a z.bs.length c :: .int .i64 z.n :: .int .u64 z.x :: .int .i64 z.pos :: .bool z.gone :: []) 104]) fun r H' => r = .int .i64 0 ∧ H' = [own b (.bool true :: .int .u64 z.id :: .string z.nm :: .int .i64 (z.bs.length : Nat) :: .int .u8 (z.sm 0) :: .int .u8 (z.sm 1) :: .int .u8 (z.sm 2) :: .int .u8 (z.sm 3) :: .int .u8 (z.sm 4) :: .int .u8 (z.sm 5) :: .int .u8 (z.sm 6) :: .int .u8 (z.sm 7) :: .int .u8 (z.sm 8) :: .int .u8 (z.sm 9) :: .int .u8 (z.sm 10) :: .int .u8 (z.sm 11) :: .int .u8 (z.sm 12) :: .int .u8 (z.sm 13) :: .int .u8 (z.sm 14) :: .int .u8 (z.sm 15) :: .int .u8 (z.sm 16) :: .int .u8 (z.sm 17) :: .int .u8 (z.sm 18) :: .int .u8 (z.sm 19) :: .int .u8 (z.sm 20) :: .int .u8 (z.sm 21) :: .int .u8 (z.sm 22) :: .int .u8 (z.sm 23) :: .int .u8 (z.sm 24) :: .int .u8 (z.sm 25) :: .int .u8 (z.sm 26) :: .int .u8 (z.sm 27) :: .int .u8 (z.sm 28) :: .int .u8 (z.sm 29) :: .int .u8 (z.sm 30) :: .int .u8 (z.sm 31) :: .slice a z.bs.length c :: .int .i64 z.n :: .int .u64 z.x :: .int .i64 z.pos :: .bool true :: []) 104] := by
  refine Does.go _ _ Try.func49 rfl Try.ntmps49 rfl rfl ?_
  refine Body.seq ?_
  refine Body.region ?_
  refine Ops.u (Dtu.asg (lk rfl)) rfl ?_
  refine Ops.nil ?_
  refine Then.next ?_
  refine Body.seq ?_
  refine Body.block ?_
  refine Body.seq ?_
  refine Body.region ?_
  refine Ops.u (Dtu.mv (lk rfl)) rfl ?_
  refine Ops.u (Dtu.eqNil Try.underlying75 (lk rfl) (lk rfl)) rfl ?_
  refine Ops.u (Dtu.mv (lk rfl)) rfl ?_
  refine Ops.gu rfl rfl rfl (Dtu.mv (lk rfl)) rfl ?_
  refine Ops.gu rfl rfl rfl (Dtu.nilck (lk rfl)) rfl ?_
  refine Ops.gu rfl rfl rfl (Dtu.fld fa104_0 (lk rfl)) rfl ?_
  refine Ops.gd rfl rfl rfl (Det.ld Try.isAgg4 (lk rfl) (Rd.ow 0 rfl rfl)) rfl ?_
  refine Ops.gu rfl rfl rfl (Dtu.not (lk rfl)) rfl ?_
  refine Ops.u (Dtu.pickF (lk rfl) (lk rfl)) rfl ?_
  refine Ops.u (Dtu.asg (lk rfl)) rfl ?_
  refine Ops.nil ?_
  refine Then.next ?_
  refine Body.condF (lk rfl) ?_
  refine Body.seq ?_
  refine Body.region ?_
  refine Ops.u (Dtu.mv (lk rfl)) rfl ?_
  refine Ops.s (Stp.callOwn [0] rfl rfl Try.call53 (lks rfl) (fun E' le hat => sstate_b E' _ _ (by first | assumption | omega) _ _) ?_) rfl
  rintro _ _ ⟨rfl, rfl⟩
  refine Ops.u (Dtu.neq (lk rfl) (lk rfl)) rfl ?_
  refine Ops.u (Dtu.asg (lk rfl)) rfl ?_
  refine Ops.nil ?_
  refine Then.next ?_
  refine Body.condP (lk rfl) (fun hy => absurd hy (by first | omega | assumption | decide)) (fun _ => ?_)
  refine Body.skip ?_
  refine Blk.norm ?_
  refine Then.next ?_
  refine Body.seq ?_
  refine Body.region ?_
  refine Ops.u (Dtu.mv (lk rfl)) rfl ?_
  refine Ops.u (Dtu.nilck (lk rfl)) rfl ?_
  refine Ops.u (Dtu.fld fa104_5 (lk rfl)) rfl ?_
  refine Ops.e (Stp.store 0 Try.sizeOf4 (lk rfl) (lk rfl) rfl rfl rfl rfl rfl rfl rfl ?_)
  refine Ops.nil ?_
  refine Then.next ?_
  refine Body.seq ?_
  refine Body.region ?_
  refine Ops.u (Dtu.asg (lk rfl)) rfl ?_
  refine Ops.nil ?_
  refine Then.next ?_
  refine Body.ret ?_
  exact ⟨.inr rfl, _, pk [0] rfl, rfl, rfl⟩
theorem scancel_n (E : Env) (b : Nat) (z : Snd) (ok : z.Ok) (a : Option Addr) (c : Nat) (hst : z.st ≠ 0) : Does Try.prog 49 #[.pointer (some ⟨b, 0, none⟩)] E ([own b (.bool true :: .int .u64 z.id :: .string z.nm :: .int .i64 (z.bs.length : Nat) :: .int .u8 (z.sm 0) :: .int .u8 (z.sm 1) :: .int .u8 (z.sm 2) :: .int .u8 (z.sm 3) :: .int .u8 (z.sm 4) :: .int .u8 (z.sm 5) :: .int .u8 (z.sm 6) :: .int .u8 (z.sm 7) :: .int .u8 (z.sm 8) :: .int .u8 (z.sm 9) :: .int .u8 (z.sm 10) :: .int .u8 (z.sm 11) :: .int .u8 (z.sm 12) :: .int .u8 (z.sm 13) :: .int .u8 (z.sm 14) :: .int .u8 (z.sm 15) :: .int .u8 (z.sm 16) :: .int .u8 (z.sm 17) :: .int .u8 (z.sm 18) :: .int .u8 (z.sm 19) :: .int .u8 (z.sm 20) :: .int .u8 (z.sm 21) :: .int .u8 (z.sm 22) :: .int .u8 (z.sm 23) :: .int .u8 (z.sm 24) :: .int .u8 (z.sm 25) :: .int .u8 (z.sm 26) :: .int .u8 (z.sm 27) :: .int .u8 (z.sm 28) :: .int .u8 (z.sm 29) :: .int .u8 (z.sm 30) :: .int .u8 (z.sm 31) :: .slice a z.bs.length c :: .int .i64 z.n :: .int .u64 z.x :: .int .i64 z.pos :: .bool z.gone :: []) 104]) fun r H' => r = .int .i64 7 ∧ H' = [own b (.bool true :: .int .u64 z.id :: .string z.nm :: .int .i64 (z.bs.length : Nat) :: .int .u8 (z.sm 0) :: .int .u8 (z.sm 1) :: .int .u8 (z.sm 2) :: .int .u8 (z.sm 3) :: .int .u8 (z.sm 4) :: .int .u8 (z.sm 5) :: .int .u8 (z.sm 6) :: .int .u8 (z.sm 7) :: .int .u8 (z.sm 8) :: .int .u8 (z.sm 9) :: .int .u8 (z.sm 10) :: .int .u8 (z.sm 11) :: .int .u8 (z.sm 12) :: .int .u8 (z.sm 13) :: .int .u8 (z.sm 14) :: .int .u8 (z.sm 15) :: .int .u8 (z.sm 16) :: .int .u8 (z.sm 17) :: .int .u8 (z.sm 18) :: .int .u8 (z.sm 19) :: .int .u8 (z.sm 20) :: .int .u8 (z.sm 21) :: .int .u8 (z.sm 22) :: .int .u8 (z.sm 23) :: .int .u8 (z.sm 24) :: .int .u8 (z.sm 25) :: .int .u8 (z.sm 26) :: .int .u8 (z.sm 27) :: .int .u8 (z.sm 28) :: .int .u8 (z.sm 29) :: .int .u8 (z.sm 30) :: .int .u8 (z.sm 31) :: .slice a z.bs.length c :: .int .i64 z.n :: .int .u64 z.x :: .int .i64 z.pos :: .bool z.gone :: []) 104] := by
  refine Does.go _ _ Try.func49 rfl Try.ntmps49 rfl rfl ?_
  refine Body.seq ?_
  refine Body.region ?_
  refine Ops.u (Dtu.asg (lk rfl)) rfl ?_
  refine Ops.nil ?_
  refine Then.next ?_
  refine Body.seq ?_
  refine Body.block ?_
  refine Body.seq ?_
  refine Body.region ?_
  refine Ops.u (Dtu.mv (lk rfl)) rfl ?_
  refine Ops.u (Dtu.eqNil Try.underlying75 (lk rfl) (lk rfl)) rfl ?_
  refine Ops.u (Dtu.mv (lk rfl)) rfl ?_
  refine Ops.gu rfl rfl rfl (Dtu.mv (lk rfl)) rfl ?_
  refine Ops.gu rfl rfl rfl (Dtu.nilck (lk rfl)) rfl ?_
  refine Ops.gu rfl rfl rfl (Dtu.fld fa104_0 (lk rfl)) rfl ?_
  refine Ops.gd rfl rfl rfl (Det.ld Try.isAgg4 (lk rfl) (Rd.ow 0 rfl rfl)) rfl ?_
  refine Ops.gu rfl rfl rfl (Dtu.not (lk rfl)) rfl ?_
  refine Ops.u (Dtu.pickF (lk rfl) (lk rfl)) rfl ?_
  refine Ops.u (Dtu.asg (lk rfl)) rfl ?_
  refine Ops.nil ?_
  refine Then.next ?_
  refine Body.condF (lk rfl) ?_
  refine Body.seq ?_
  refine Body.region ?_
  refine Ops.u (Dtu.mv (lk rfl)) rfl ?_
  refine Ops.s (Stp.callOwn [0] rfl rfl Try.call53 (lks rfl) (fun E' le hat => sstate_b E' _ _ (by first | assumption | omega) _ _) ?_) rfl
  rintro _ _ ⟨rfl, rfl⟩
  refine Ops.u (Dtu.neq (lk rfl) (lk rfl)) rfl ?_
  refine Ops.u (Dtu.asg (lk rfl)) rfl ?_
  refine Ops.nil ?_
  refine Then.next ?_
  refine Body.condP (lk rfl) (fun _ => ?_) (fun hn => absurd (by first | omega | assumption | decide) hn)
  refine Body.seq ?_
  refine Body.region ?_
  refine Ops.u (Dtu.asg (lk rfl)) rfl ?_
  refine Ops.nil ?_
  refine Then.next ?_
  refine Body.ret ?_
  refine Blk.ret ?_
  refine Then.ret ?_
  exact ⟨.inr rfl, _, pk [0] rfl, rfl, rfl⟩
theorem sinfo_b (E : Env) (b : Nat) (z : Snd) (a : Option Addr) (c : Nat) : Does Try.prog 55 #[.pointer (some ⟨b, 0, none⟩)] E ([own b (.bool true :: .int .u64 z.id :: .string z.nm :: .int .i64 (z.bs.length : Nat) :: .int .u8 (z.sm 0) :: .int .u8 (z.sm 1) :: .int .u8 (z.sm 2) :: .int .u8 (z.sm 3) :: .int .u8 (z.sm 4) :: .int .u8 (z.sm 5) :: .int .u8 (z.sm 6) :: .int .u8 (z.sm 7) :: .int .u8 (z.sm 8) :: .int .u8 (z.sm 9) :: .int .u8 (z.sm 10) :: .int .u8 (z.sm 11) :: .int .u8 (z.sm 12) :: .int .u8 (z.sm 13) :: .int .u8 (z.sm 14) :: .int .u8 (z.sm 15) :: .int .u8 (z.sm 16) :: .int .u8 (z.sm 17) :: .int .u8 (z.sm 18) :: .int .u8 (z.sm 19) :: .int .u8 (z.sm 20) :: .int .u8 (z.sm 21) :: .int .u8 (z.sm 22) :: .int .u8 (z.sm 23) :: .int .u8 (z.sm 24) :: .int .u8 (z.sm 25) :: .int .u8 (z.sm 26) :: .int .u8 (z.sm 27) :: .int .u8 (z.sm 28) :: .int .u8 (z.sm 29) :: .int .u8 (z.sm 30) :: .int .u8 (z.sm 31) :: .slice a z.bs.length c :: .int .i64 z.n :: .int .u64 z.x :: .int .i64 z.pos :: .bool z.gone :: []) 104]) fun r H' => r = .agg (.int .u64 z.id :: .string z.nm :: .int .i64 (z.bs.length : Nat) :: .int .u8 (z.sm 0) :: .int .u8 (z.sm 1) :: .int .u8 (z.sm 2) :: .int .u8 (z.sm 3) :: .int .u8 (z.sm 4) :: .int .u8 (z.sm 5) :: .int .u8 (z.sm 6) :: .int .u8 (z.sm 7) :: .int .u8 (z.sm 8) :: .int .u8 (z.sm 9) :: .int .u8 (z.sm 10) :: .int .u8 (z.sm 11) :: .int .u8 (z.sm 12) :: .int .u8 (z.sm 13) :: .int .u8 (z.sm 14) :: .int .u8 (z.sm 15) :: .int .u8 (z.sm 16) :: .int .u8 (z.sm 17) :: .int .u8 (z.sm 18) :: .int .u8 (z.sm 19) :: .int .u8 (z.sm 20) :: .int .u8 (z.sm 21) :: .int .u8 (z.sm 22) :: .int .u8 (z.sm 23) :: .int .u8 (z.sm 24) :: .int .u8 (z.sm 25) :: .int .u8 (z.sm 26) :: .int .u8 (z.sm 27) :: .int .u8 (z.sm 28) :: .int .u8 (z.sm 29) :: .int .u8 (z.sm 30) :: .int .u8 (z.sm 31) :: []).toArray ∧ H' = [own b (.bool true :: .int .u64 z.id :: .string z.nm :: .int .i64 (z.bs.length : Nat) :: .int .u8 (z.sm 0) :: .int .u8 (z.sm 1) :: .int .u8 (z.sm 2) :: .int .u8 (z.sm 3) :: .int .u8 (z.sm 4) :: .int .u8 (z.sm 5) :: .int .u8 (z.sm 6) :: .int .u8 (z.sm 7) :: .int .u8 (z.sm 8) :: .int .u8 (z.sm 9) :: .int .u8 (z.sm 10) :: .int .u8 (z.sm 11) :: .int .u8 (z.sm 12) :: .int .u8 (z.sm 13) :: .int .u8 (z.sm 14) :: .int .u8 (z.sm 15) :: .int .u8 (z.sm 16) :: .int .u8 (z.sm 17) :: .int .u8 (z.sm 18) :: .int .u8 (z.sm 19) :: .int .u8 (z.sm 20) :: .int .u8 (z.sm 21) :: .int .u8 (z.sm 22) :: .int .u8 (z.sm 23) :: .int .u8 (z.sm 24) :: .int .u8 (z.sm 25) :: .int .u8 (z.sm 26) :: .int .u8 (z.sm 27) :: .int .u8 (z.sm 28) :: .int .u8 (z.sm 29) :: .int .u8 (z.sm 30) :: .int .u8 (z.sm 31) :: .slice a z.bs.length c :: .int .i64 z.n :: .int .u64 z.x :: .int .i64 z.pos :: .bool z.gone :: []) 104] := by
  refine Does.go _ _ Try.func55 rfl Try.ntmps55 rfl rfl ?_
  refine Body.seq ?_
  refine Body.region ?_
  refine Ops.s (Stp.alloc ty82 (fun b2 => ?_)) rfl
  refine Ops.nil ?_
  refine Then.next ?_
  refine Body.seq ?_
  refine Body.seq ?_
  refine Body.region ?_
  refine Ops.u (Dtu.mv (lk rfl)) rfl ?_
  refine Ops.u (Dtu.eqNil Try.underlying75 (lk rfl) (lk rfl)) rfl ?_
  refine Ops.nil ?_
  refine Then.next ?_
  refine Body.condF (lk rfl) ?_
  refine Body.skip ?_
  refine Then.next ?_
  refine Body.seq ?_
  refine Body.region ?_
  refine Ops.u (Dtu.mv (lk rfl)) rfl ?_
  refine Ops.u (Dtu.nilck (lk rfl)) rfl ?_
  refine Ops.u (Dtu.fld fa104_1 (lk rfl)) rfl ?_
  refine Ops.d (Det.lda Try.isAgg82 Try.sizeOf82 (lk rfl) (Rds.ow (m := 35) 1 rfl rfl) rfl) rfl ?_
  refine Ops.e (Stp.store 0 Try.sizeOf82 (lk rfl) (lk rfl) rfl rfl rfl rfl rfl rfl rfl ?_)
  refine Ops.nil ?_
  refine Then.next ?_
  refine Body.ret ?_
  exact ⟨.inr rfl, _, Loads.agg Try.isAgg82 Try.sizeOf82 (Rds.ow (m := 35) 0 rfl rfl) rfl, _, pk [1] rfl, rfl, rfl⟩
end Go.Proofs.Ytpmapedhigjalaa
end
section
/- file: New. -/
namespace Go.Proofs.Ytpmapedhigjalaa
set_option maxRecDepth 100000
set_option maxHeartbeats 4000000
set_option linter.unusedVariables false
set_option linter.unusedSimpArgs false
open Go.Sx


def shaS (bs : List Int) (i : Nat) : Int := (shaF bs)[i]!
theorem l32 {l : List Int} (h : l.length = 32) : l = (List.range 32).map fun i => l[i]! := by
  refine List.ext_getElem (by simp [h]) fun i h1 h2 => ?_
  rw [List.getElem_map, List.getElem_range, getElem!_pos l i h1]
theorem sha32 (bs : List Int) : (shaF bs).map (Value.int .u8) = (.int .u8 (shaS bs 0) :: .int .u8 (shaS bs 1) :: .int .u8 (shaS bs 2) :: .int .u8 (shaS bs 3) :: .int .u8 (shaS bs 4) :: .int .u8 (shaS bs 5) :: .int .u8 (shaS bs 6) :: .int .u8 (shaS bs 7) :: .int .u8 (shaS bs 8) :: .int .u8 (shaS bs 9) :: .int .u8 (shaS bs 10) :: .int .u8 (shaS bs 11) :: .int .u8 (shaS bs 12) :: .int .u8 (shaS bs 13) :: .int .u8 (shaS bs 14) :: .int .u8 (shaS bs 15) :: .int .u8 (shaS bs 16) :: .int .u8 (shaS bs 17) :: .int .u8 (shaS bs 18) :: .int .u8 (shaS bs 19) :: .int .u8 (shaS bs 20) :: .int .u8 (shaS bs 21) :: .int .u8 (shaS bs 22) :: .int .u8 (shaS bs 23) :: .int .u8 (shaS bs 24) :: .int .u8 (shaS bs 25) :: .int .u8 (shaS bs 26) :: .int .u8 (shaS bs 27) :: .int .u8 (shaS bs 28) :: .int .u8 (shaS bs 29) :: .int .u8 (shaS bs 30) :: .int .u8 (shaS bs 31) :: [] : List Value) := by
  rw [l32 (shaF_len bs)]
  rfl
theorem sof32_ok (E : Env) (parts p : Value) (bs : List Int) (hq : Sl E [] 1 parts 1 [p]) (hp : Sl E [] 1 p bs.length (bs.map (.int .u8))) (hb : Byt bs) (hlen : bs.length ≤ 140737488355000) : Does Try.prog 56 #[parts] E ([]) fun r H' => r = .agg (.int .u8 (shaS bs 0) :: .int .u8 (shaS bs 1) :: .int .u8 (shaS bs 2) :: .int .u8 (shaS bs 3) :: .int .u8 (shaS bs 4) :: .int .u8 (shaS bs 5) :: .int .u8 (shaS bs 6) :: .int .u8 (shaS bs 7) :: .int .u8 (shaS bs 8) :: .int .u8 (shaS bs 9) :: .int .u8 (shaS bs 10) :: .int .u8 (shaS bs 11) :: .int .u8 (shaS bs 12) :: .int .u8 (shaS bs 13) :: .int .u8 (shaS bs 14) :: .int .u8 (shaS bs 15) :: .int .u8 (shaS bs 16) :: .int .u8 (shaS bs 17) :: .int .u8 (shaS bs 18) :: .int .u8 (shaS bs 19) :: .int .u8 (shaS bs 20) :: .int .u8 (shaS bs 21) :: .int .u8 (shaS bs 22) :: .int .u8 (shaS bs 23) :: .int .u8 (shaS bs 24) :: .int .u8 (shaS bs 25) :: .int .u8 (shaS bs 26) :: .int .u8 (shaS bs 27) :: .int .u8 (shaS bs 28) :: .int .u8 (shaS bs 29) :: .int .u8 (shaS bs 30) :: .int .u8 (shaS bs 31) :: []).toArray ∧ H' = [] := by
  have := sof_ok E parts p bs hq hp hb hlen
  rwa [sha32] at this
def infoR (id : Int) (nm : ByteArray) (sz : Int) : Bool := decide (1 ≤ id ∧ id ≤ 4611686018427387903 ∧ 1 ≤ nm.size ∧ nm.size ≤ 24 ∧ 0 ≤ sz ∧ sz ≤ 4096)
theorem sright_ok (E : Env) (id : Int) (nm : ByteArray) (sz : Int) (sm : Nat → Int) : Does Try.prog 38 #[.agg (.int .u64 id :: .string nm :: .int .i64 sz :: .int .u8 (sm 0) :: .int .u8 (sm 1) :: .int .u8 (sm 2) :: .int .u8 (sm 3) :: .int .u8 (sm 4) :: .int .u8 (sm 5) :: .int .u8 (sm 6) :: .int .u8 (sm 7) :: .int .u8 (sm 8) :: .int .u8 (sm 9) :: .int .u8 (sm 10) :: .int .u8 (sm 11) :: .int .u8 (sm 12) :: .int .u8 (sm 13) :: .int .u8 (sm 14) :: .int .u8 (sm 15) :: .int .u8 (sm 16) :: .int .u8 (sm 17) :: .int .u8 (sm 18) :: .int .u8 (sm 19) :: .int .u8 (sm 20) :: .int .u8 (sm 21) :: .int .u8 (sm 22) :: .int .u8 (sm 23) :: .int .u8 (sm 24) :: .int .u8 (sm 25) :: .int .u8 (sm 26) :: .int .u8 (sm 27) :: .int .u8 (sm 28) :: .int .u8 (sm 29) :: .int .u8 (sm 30) :: .int .u8 (sm 31) :: []).toArray] E ([]) fun r H' => r = .bool (infoR id nm sz) ∧ H' = [] := by
  refine Does.go _ _ Try.func38 rfl Try.ntmps38 rfl rfl ?_
  refine Body.seq ?_
  refine Body.region ?_
  refine Ops.s (Stp.box (lk rfl) rfl (fun b1 => ?_)) rfl
  refine Ops.u (Dtu.asg (lk rfl)) rfl ?_
  refine Ops.nil ?_
  refine Then.next ?_
  refine Body.seq ?_
  refine Body.region ?_
  refine Ops.u (Dtu.fld fa82_0 (lk rfl)) rfl ?_
  refine Ops.d (Det.ld Try.isAgg72 (lk rfl) (Rd.ow 0 rfl rfl)) rfl ?_
  refine Ops.u (Dtu.geq (lk rfl) (lk rfl)) rfl ?_
  refine Ops.u (Dtu.mv (lk rfl)) rfl ?_
  refine Ops.decP 6 rfl (fun c6 => ?_) (fun c6 => ?_)
  · refine Ops.gu rfl rfl rfl (Dtu.fld fa82_0 (lk rfl)) rfl ?_
    refine Ops.gd rfl rfl rfl (Det.ld Try.isAgg72 (lk rfl) (Rd.ow 0 rfl rfl)) rfl ?_
    refine Ops.gu rfl rfl rfl (Dtu.leq (lk rfl) (lk rfl)) rfl ?_
    refine Ops.u (Dtu.pickT (lk rfl) (lk rfl)) rfl ?_
    refine Ops.u (Dtu.mv (lk rfl)) rfl ?_
    refine Ops.decP 11 rfl (fun c11 => ?_) (fun c11 => ?_)
    · refine Ops.gu rfl rfl rfl (Dtu.fld fa82_1 (lk rfl)) rfl ?_
      refine Ops.gd rfl rfl rfl (Det.ld Try.isAgg9 (lk rfl) (Rd.ow 0 rfl rfl)) rfl ?_
      refine Ops.gu rfl rfl rfl (Dtu.lenStr Try.underlying9 (lk rfl)) rfl ?_
      refine Ops.gu rfl rfl rfl (Dtu.geq (lk rfl) (lk rfl)) rfl ?_
      refine Ops.u (Dtu.pickT (lk rfl) (lk rfl)) rfl ?_
      refine Ops.u (Dtu.mv (lk rfl)) rfl ?_
      refine Ops.decP 17 rfl (fun c17 => ?_) (fun c17 => ?_)
      · refine Ops.gu rfl rfl rfl (Dtu.fld fa82_1 (lk rfl)) rfl ?_
        refine Ops.gd rfl rfl rfl (Det.ld Try.isAgg9 (lk rfl) (Rd.ow 0 rfl rfl)) rfl ?_
        refine Ops.gu rfl rfl rfl (Dtu.lenStr Try.underlying9 (lk rfl)) rfl ?_
        refine Ops.gu rfl rfl rfl (Dtu.leq (lk rfl) (lk rfl)) rfl ?_
        refine Ops.u (Dtu.pickT (lk rfl) (lk rfl)) rfl ?_
        refine Ops.u (Dtu.mv (lk rfl)) rfl ?_
        refine Ops.decP 23 rfl (fun c23 => ?_) (fun c23 => ?_)
        · refine Ops.gu rfl rfl rfl (Dtu.fld fa82_2 (lk rfl)) rfl ?_
          refine Ops.gd rfl rfl rfl (Det.ld Try.isAgg3 (lk rfl) (Rd.ow 0 rfl rfl)) rfl ?_
          refine Ops.gs rfl rfl rfl (Stp.call rfl Try.call91 (lks rfl) (fun E' le hat => ssize_ok E' _) ?_) rfl
          rintro _ _ ⟨rfl, rfl⟩
          refine Ops.u (Dtu.pickT (lk rfl) (lk rfl)) rfl ?_
          refine Ops.u (Dtu.asg (lk rfl)) rfl ?_
          refine Ops.nil ?_
          refine Then.next ?_
          refine Body.ret ?_
          (refine ⟨.inr rfl, _, pk [] rfl, bEq ?_, rfl⟩; simp [infoR]; omega)
        · refine Ops.gn rfl rfl rfl rfl rfl ?_
          refine Ops.gn rfl rfl rfl rfl rfl ?_
          refine Ops.gn rfl rfl rfl rfl rfl ?_
          refine Ops.u (Dtu.pickF (lk rfl) (lk rfl)) rfl ?_
          refine Ops.u (Dtu.asg (lk rfl)) rfl ?_
          refine Ops.nil ?_
          refine Then.next ?_
          refine Body.ret ?_
          (refine ⟨.inr rfl, _, pk [] rfl, bEq ?_, rfl⟩; simp [infoR]; omega)
      · refine Ops.gn rfl rfl rfl rfl rfl ?_
        refine Ops.gn rfl rfl rfl rfl rfl ?_
        refine Ops.gn rfl rfl rfl rfl rfl ?_
        refine Ops.gn rfl rfl rfl rfl rfl ?_
        refine Ops.u (Dtu.pickF (lk rfl) (lk rfl)) rfl ?_
        refine Ops.u (Dtu.mv (lk rfl)) rfl ?_
        refine Ops.gn rfl rfl rfl rfl rfl ?_
        refine Ops.gn rfl rfl rfl rfl rfl ?_
        refine Ops.gn rfl rfl rfl rfl rfl ?_
        refine Ops.u (Dtu.pickF (lk rfl) (lk rfl)) rfl ?_
        refine Ops.u (Dtu.asg (lk rfl)) rfl ?_
        refine Ops.nil ?_
        refine Then.next ?_
        refine Body.ret ?_
        (refine ⟨.inr rfl, _, pk [] rfl, bEq ?_, rfl⟩; simp [infoR]; omega)
    · refine Ops.gn rfl rfl rfl rfl rfl ?_
      refine Ops.gn rfl rfl rfl rfl rfl ?_
      refine Ops.gn rfl rfl rfl rfl rfl ?_
      refine Ops.gn rfl rfl rfl rfl rfl ?_
      refine Ops.u (Dtu.pickF (lk rfl) (lk rfl)) rfl ?_
      refine Ops.u (Dtu.mv (lk rfl)) rfl ?_
      refine Ops.gn rfl rfl rfl rfl rfl ?_
      refine Ops.gn rfl rfl rfl rfl rfl ?_
      refine Ops.gn rfl rfl rfl rfl rfl ?_
      refine Ops.gn rfl rfl rfl rfl rfl ?_
      refine Ops.u (Dtu.pickF (lk rfl) (lk rfl)) rfl ?_
      refine Ops.u (Dtu.mv (lk rfl)) rfl ?_
      refine Ops.gn rfl rfl rfl rfl rfl ?_
      refine Ops.gn rfl rfl rfl rfl rfl ?_
      refine Ops.gn rfl rfl rfl rfl rfl ?_
      refine Ops.u (Dtu.pickF (lk rfl) (lk rfl)) rfl ?_
      refine Ops.u (Dtu.asg (lk rfl)) rfl ?_
      refine Ops.nil ?_
      refine Then.next ?_
      refine Body.ret ?_
      (refine ⟨.inr rfl, _, pk [] rfl, bEq ?_, rfl⟩; simp [infoR]; omega)
  · refine Ops.gn rfl rfl rfl rfl rfl ?_
    refine Ops.gn rfl rfl rfl rfl rfl ?_
    refine Ops.gn rfl rfl rfl rfl rfl ?_
    refine Ops.u (Dtu.pickF (lk rfl) (lk rfl)) rfl ?_
    refine Ops.u (Dtu.mv (lk rfl)) rfl ?_
    refine Ops.gn rfl rfl rfl rfl rfl ?_
    refine Ops.gn rfl rfl rfl rfl rfl ?_
    refine Ops.gn rfl rfl rfl rfl rfl ?_
    refine Ops.gn rfl rfl rfl rfl rfl ?_
    refine Ops.u (Dtu.pickF (lk rfl) (lk rfl)) rfl ?_
    refine Ops.u (Dtu.mv (lk rfl)) rfl ?_
    refine Ops.gn rfl rfl rfl rfl rfl ?_
    refine Ops.gn rfl rfl rfl rfl rfl ?_
    refine Ops.gn rfl rfl rfl rfl rfl ?_
    refine Ops.gn rfl rfl rfl rfl rfl ?_
    refine Ops.u (Dtu.pickF (lk rfl) (lk rfl)) rfl ?_
    refine Ops.u (Dtu.mv (lk rfl)) rfl ?_
    refine Ops.gn rfl rfl rfl rfl rfl ?_
    refine Ops.gn rfl rfl rfl rfl rfl ?_
    refine Ops.gn rfl rfl rfl rfl rfl ?_
    refine Ops.u (Dtu.pickF (lk rfl) (lk rfl)) rfl ?_
    refine Ops.u (Dtu.asg (lk rfl)) rfl ?_
    refine Ops.nil ?_
    refine Then.next ?_
    refine Body.ret ?_
    (refine ⟨.inr rfl, _, pk [] rfl, bEq ?_, rfl⟩; simp [infoR]; omega)
theorem snew_b (E : Env) (id : Int) (nm : ByteArray) (bv : Value) (bs : List Int) (hs : Sl E [] 1 bv bs.length (bs.map (.int .u8))) (hb : Byt bs) (hi : infoR id nm bs.length = true) : Does Try.prog 37 #[.int .u64 id, .string nm, bv] E ([]) fun r H' => ∃ b a c, r = .tuple #[.pointer (some ⟨b, 0, none⟩), .int .i64 0] ∧ H' = [own b (.bool true :: .int .u64 id :: .string nm :: .int .i64 (bs.length : Nat) :: .int .u8 (shaS bs 0) :: .int .u8 (shaS bs 1) :: .int .u8 (shaS bs 2) :: .int .u8 (shaS bs 3) :: .int .u8 (shaS bs 4) :: .int .u8 (shaS bs 5) :: .int .u8 (shaS bs 6) :: .int .u8 (shaS bs 7) :: .int .u8 (shaS bs 8) :: .int .u8 (shaS bs 9) :: .int .u8 (shaS bs 10) :: .int .u8 (shaS bs 11) :: .int .u8 (shaS bs 12) :: .int .u8 (shaS bs 13) :: .int .u8 (shaS bs 14) :: .int .u8 (shaS bs 15) :: .int .u8 (shaS bs 16) :: .int .u8 (shaS bs 17) :: .int .u8 (shaS bs 18) :: .int .u8 (shaS bs 19) :: .int .u8 (shaS bs 20) :: .int .u8 (shaS bs 21) :: .int .u8 (shaS bs 22) :: .int .u8 (shaS bs 23) :: .int .u8 (shaS bs 24) :: .int .u8 (shaS bs 25) :: .int .u8 (shaS bs 26) :: .int .u8 (shaS bs 27) :: .int .u8 (shaS bs 28) :: .int .u8 (shaS bs 29) :: .int .u8 (shaS bs 30) :: .int .u8 (shaS bs 31) :: .slice a bs.length c :: .int .i64 ((bs.length + 63) / 64 : Nat) :: .int .u64 0 :: .int .i64 0 :: .bool false :: []) 104, osl 5 1 (.slice a bs.length c) bs.length (bs.map (.int .u8))] := by
  have hlen : bs.length ≤ 4096 := by have := of_decide_eq_true hi; omega
  have hl2 : bs.length ≤ 140737488355000 := by omega
  have hch : chZ bs.length = ((bs.length + 63) / 64 : Nat) := by unfold chZ; rw [if_pos (by omega)]; omega
  refine Does.pure (Sl.shape hs) fun ⟨a0, c0, hv⟩ => ?_
  subst hv
  refine Does.go _ _ Try.func37 rfl Try.ntmps37 rfl rfl ?_
  rw [← hch]
  refine Body.seq ?_
  refine Body.region ?_
  refine Ops.u (Dtu.asg (lk rfl)) rfl ?_
  refine Ops.u (Dtu.asg (lk rfl)) rfl ?_
  refine Ops.nil ?_
  refine Then.next ?_
  refine Body.seq ?_
  refine Body.region ?_
  refine Ops.u (Dtu.mv (lk rfl)) rfl ?_
  refine Ops.u (Dtu.mv (lk rfl)) rfl ?_
  refine Ops.u (Dtu.mv (lk rfl)) rfl ?_
  refine Ops.u (Dtu.lenS Try.underlying73 (Sl.up hs) (lk rfl)) rfl ?_
  refine Ops.u (Dtu.mv (lk rfl)) rfl ?_
  refine Ops.s (Stp.buildSliceO Try.underlying144 ty73 (by decide) (by decide) (lkp rfl) rfl rfl rfl (by decide) (fun v16 => ?_)) rfl
  refine Ops.s (Stp.call rfl Try.call56 (lks rfl) (fun E' le hat => sof32_ok E' _ _ _ (by first | exact Sl.mono (by assumption) le | exact Sl.hatI hat 0 rfl | exact Sl.hatI hat 1 rfl | exact Sl.hatI hat 2 rfl | exact Sl.hatI hat 3 rfl | exact Sl.hatI hat 4 rfl | exact Sl.hatI hat 5 rfl | exact Sl.hatI hat 6 rfl | exact Sl.hatI hat 7 rfl | exact Sl.hatI hat 8 rfl | exact Sl.hatI hat 9 rfl | exact Sl.hatI hat 10 rfl | exact Sl.hatI hat 11 rfl | exact Sl.hatI hat 12 rfl | exact Sl.hatI hat 13 rfl | exact Sl.hatI hat 14 rfl | exact Sl.hatI hat 15 rfl | exact Sl.hatW hat 0 rfl | exact Sl.hatW hat 1 rfl | exact Sl.hatW hat 2 rfl | exact Sl.hatW hat 3 rfl | exact Sl.hatW hat 4 rfl | exact Sl.hatW hat 5 rfl | exact Sl.hatW hat 6 rfl | exact Sl.hatW hat 7 rfl | exact Sl.hatW hat 8 rfl | exact Sl.hatW hat 9 rfl) (by first | exact Sl.mono (by assumption) le | exact Sl.hatI hat 0 rfl | exact Sl.hatI hat 1 rfl | exact Sl.hatI hat 2 rfl | exact Sl.hatI hat 3 rfl | exact Sl.hatI hat 4 rfl | exact Sl.hatI hat 5 rfl | exact Sl.hatI hat 6 rfl | exact Sl.hatI hat 7 rfl | exact Sl.hatI hat 8 rfl | exact Sl.hatI hat 9 rfl | exact Sl.hatI hat 10 rfl | exact Sl.hatI hat 11 rfl | exact Sl.hatI hat 12 rfl | exact Sl.hatI hat 13 rfl | exact Sl.hatI hat 14 rfl | exact Sl.hatI hat 15 rfl | exact Sl.hatW hat 0 rfl | exact Sl.hatW hat 1 rfl | exact Sl.hatW hat 2 rfl | exact Sl.hatW hat 3 rfl | exact Sl.hatW hat 4 rfl | exact Sl.hatW hat 5 rfl | exact Sl.hatW hat 6 rfl | exact Sl.hatW hat 7 rfl | exact Sl.hatW hat 8 rfl | exact Sl.hatW hat 9 rfl) (by first | assumption | omega) (by first | assumption | omega)) ?_) rfl
  rintro _ _ ⟨rfl, rfl⟩
  refine Ops.u (Dtu.build ty82 pl82 (lkp rfl) rfl rfl) rfl ?_
  refine Ops.s (Stp.alloc ty82 (fun b8 => ?_)) rfl
  refine Ops.e (Stp.store 0 Try.sizeOf82 (lk rfl) (lk rfl) rfl rfl rfl rfl rfl rfl rfl ?_)
  refine Ops.nil ?_
  refine Then.next ?_
  refine Body.seq ?_
  refine Body.seq ?_
  refine Body.region ?_
  refine Ops.d (Det.lda Try.isAgg82 Try.sizeOf82 (lk rfl) (Rds.ow (m := 35) 0 rfl rfl) rfl) rfl ?_
  refine Ops.s (Stp.call rfl Try.call38 (lks rfl) (fun E' le hat => sright_ok E' _ _ _ _) ?_) rfl
  rintro _ _ ⟨rfl, rfl⟩
  refine Ops.u (Dtu.not (lk rfl)) rfl ?_
  refine Ops.nil ?_
  refine Then.next ?_
  refine Body.cond (lk rfl) (fun hn => absurd hn (by first | (rw [hi]; decide) | simp [hi])) (fun _ => ?_)
  refine Body.skip ?_
  refine Then.next ?_
  refine Body.seq ?_
  refine Body.region ?_
  refine Ops.u (Dtu.mv (lk rfl)) rfl ?_
  refine Ops.u (Dtu.lenS Try.underlying73 (Sl.up hs) (lk rfl)) rfl ?_
  refine Ops.s (Stp.call rfl Try.call62 (lks rfl) (fun E' le hat => schunks_ok E' _) ?_) rfl
  rintro _ _ ⟨rfl, rfl⟩
  refine Ops.s (Stp.call rfl Try.call88 (lks rfl) (fun E' le hat => bnew_ok E' _ (by first | assumption | omega)) ?_) rfl
  rintro _ _ ⟨rfl, rfl⟩
  refine Ops.u (Dtu.mv (lk rfl)) rfl ?_
  refine Ops.u (Dtu.ext (lk rfl) rfl) rfl ?_
  refine Ops.u (Dtu.ext (lk rfl) rfl) rfl ?_
  refine Ops.s (Stp.alloc ty86 (fun b9 => ?_)) rfl
  refine Ops.e (Stp.store 0 Try.sizeOf86 (lk rfl) (lk rfl) rfl rfl rfl rfl rfl rfl rfl ?_)
  refine Ops.u (Dtu.asg (lk rfl)) rfl ?_
  refine Ops.nil ?_
  refine Then.next ?_
  refine Body.seq ?_
  refine Body.seq ?_
  refine Body.region ?_
  refine Ops.u (Dtu.mv (lk rfl)) rfl ?_
  refine Ops.u (Dtu.neq (lk rfl) (lk rfl)) rfl ?_
  refine Ops.nil ?_
  refine Then.next ?_
  refine Body.condP (lk rfl) (fun hy => absurd hy (by first | omega | assumption | decide)) (fun _ => ?_)
  refine Body.skip ?_
  refine Then.next ?_
  refine Body.seq ?_
  refine Body.drawE [0, 0] mixed rfl ?_
  rintro E7' le7 ⟨hA7_0, hA7_1, -⟩
  have hs_7 := Sl.mono hs le7
  refine AE.d 0 rfl (by decide +kernel) (Det.lda Try.isAgg82 Try.sizeOf82 (lk rfl) (Rds.at (m := 35) hA7_1 rfl) rfl) rfl ?_
  refine AE.u 1 rfl (by decide +kernel) (Dtu.mv (lk rfl)) rfl ?_
  refine AE.d 3 rfl (by decide +kernel) (Det.lda Try.isAgg86 Try.sizeOf86 (lk rfl) (Rds.at (m := 2) hA7_0 rfl) rfl) rfl ?_
  refine AE.more [2] (by decide +kernel) rfl ⟨?_, trivial⟩
  refine AEI.s rfl (Stp.call rfl Try.call90 (lks rfl) (fun E' le hat => cloneB2_ok E' _ _ _ (by first | exact Sl.mono (by assumption) le | exact Sl.hatI hat 0 rfl | exact Sl.hatI hat 1 rfl | exact Sl.hatI hat 2 rfl | exact Sl.hatI hat 3 rfl | exact Sl.hatI hat 4 rfl | exact Sl.hatI hat 5 rfl | exact Sl.hatI hat 6 rfl | exact Sl.hatI hat 7 rfl | exact Sl.hatI hat 8 rfl | exact Sl.hatI hat 9 rfl | exact Sl.hatI hat 10 rfl | exact Sl.hatI hat 11 rfl | exact Sl.hatI hat 12 rfl | exact Sl.hatI hat 13 rfl | exact Sl.hatI hat 14 rfl | exact Sl.hatI hat 15 rfl | exact Sl.hatW hat 0 rfl | exact Sl.hatW hat 1 rfl | exact Sl.hatW hat 2 rfl | exact Sl.hatW hat 3 rfl | exact Sl.hatW hat 4 rfl | exact Sl.hatW hat 5 rfl | exact Sl.hatW hat 6 rfl | exact Sl.hatW hat 7 rfl | exact Sl.hatW hat 8 rfl | exact Sl.hatW hat 9 rfl) (u8s_one _) (by omega)) ?_) rfl
  rintro _ _ ⟨ca34, cc34, rfl, rfl⟩
  refine AE.u 4 rfl (by decide +kernel) (Dtu.build ty104 pl104 (lkp rfl) rfl rfl) rfl ?_
  refine AE.more [5] (by decide +kernel) rfl ⟨?_, trivial⟩
  refine AEI.s rfl (Stp.box (lk rfl) rfl (fun b37 => ?_)) rfl
  refine AE.u 6 rfl (by decide +kernel) (Dtu.asg (lk rfl)) rfl ?_
  refine AE.u 7 rfl (by decide +kernel) (Dtu.asg (lk rfl)) rfl ?_
  refine AE.done (by decide +kernel) ?_
  refine Then.next ?_
  refine Body.ret ?_
  exact ⟨.inr rfl, _, pk [0, 0] rfl, _, _, _, rfl, rfl⟩
theorem snew_n (E : Env) (id : Int) (nm : ByteArray) (bv : Value) (bs : List Int) (hs : Sl E [] 1 bv bs.length (bs.map (.int .u8))) (hb : Byt bs) (hi : infoR id nm bs.length = false) (hl2 : bs.length ≤ 140737488355000) : Does Try.prog 37 #[.int .u64 id, .string nm, bv] E ([]) fun r H' => r = .tuple #[.pointer none, .int .i64 3] ∧ H' = [] := by
  refine Does.pure (Sl.shape hs) fun ⟨a0, c0, hv⟩ => ?_
  subst hv
  refine Does.go _ _ Try.func37 rfl Try.ntmps37 rfl rfl ?_
  refine Body.seq ?_
  refine Body.region ?_
  refine Ops.u (Dtu.asg (lk rfl)) rfl ?_
  refine Ops.u (Dtu.asg (lk rfl)) rfl ?_
  refine Ops.nil ?_
  refine Then.next ?_
  refine Body.seq ?_
  refine Body.region ?_
  refine Ops.u (Dtu.mv (lk rfl)) rfl ?_
  refine Ops.u (Dtu.mv (lk rfl)) rfl ?_
  refine Ops.u (Dtu.mv (lk rfl)) rfl ?_
  refine Ops.u (Dtu.lenS Try.underlying73 (Sl.up hs) (lk rfl)) rfl ?_
  refine Ops.u (Dtu.mv (lk rfl)) rfl ?_
  refine Ops.s (Stp.buildSliceO Try.underlying144 ty73 (by decide) (by decide) (lkp rfl) rfl rfl rfl (by decide) (fun v16 => ?_)) rfl
  refine Ops.s (Stp.call rfl Try.call56 (lks rfl) (fun E' le hat => sof32_ok E' _ _ _ (by first | exact Sl.mono (by assumption) le | exact Sl.hatI hat 0 rfl | exact Sl.hatI hat 1 rfl | exact Sl.hatI hat 2 rfl | exact Sl.hatI hat 3 rfl | exact Sl.hatI hat 4 rfl | exact Sl.hatI hat 5 rfl | exact Sl.hatI hat 6 rfl | exact Sl.hatI hat 7 rfl | exact Sl.hatI hat 8 rfl | exact Sl.hatI hat 9 rfl | exact Sl.hatI hat 10 rfl | exact Sl.hatI hat 11 rfl | exact Sl.hatI hat 12 rfl | exact Sl.hatI hat 13 rfl | exact Sl.hatI hat 14 rfl | exact Sl.hatI hat 15 rfl | exact Sl.hatW hat 0 rfl | exact Sl.hatW hat 1 rfl | exact Sl.hatW hat 2 rfl | exact Sl.hatW hat 3 rfl | exact Sl.hatW hat 4 rfl | exact Sl.hatW hat 5 rfl | exact Sl.hatW hat 6 rfl | exact Sl.hatW hat 7 rfl | exact Sl.hatW hat 8 rfl | exact Sl.hatW hat 9 rfl) (by first | exact Sl.mono (by assumption) le | exact Sl.hatI hat 0 rfl | exact Sl.hatI hat 1 rfl | exact Sl.hatI hat 2 rfl | exact Sl.hatI hat 3 rfl | exact Sl.hatI hat 4 rfl | exact Sl.hatI hat 5 rfl | exact Sl.hatI hat 6 rfl | exact Sl.hatI hat 7 rfl | exact Sl.hatI hat 8 rfl | exact Sl.hatI hat 9 rfl | exact Sl.hatI hat 10 rfl | exact Sl.hatI hat 11 rfl | exact Sl.hatI hat 12 rfl | exact Sl.hatI hat 13 rfl | exact Sl.hatI hat 14 rfl | exact Sl.hatI hat 15 rfl | exact Sl.hatW hat 0 rfl | exact Sl.hatW hat 1 rfl | exact Sl.hatW hat 2 rfl | exact Sl.hatW hat 3 rfl | exact Sl.hatW hat 4 rfl | exact Sl.hatW hat 5 rfl | exact Sl.hatW hat 6 rfl | exact Sl.hatW hat 7 rfl | exact Sl.hatW hat 8 rfl | exact Sl.hatW hat 9 rfl) (by first | assumption | omega) (by first | assumption | omega)) ?_) rfl
  rintro _ _ ⟨rfl, rfl⟩
  refine Ops.u (Dtu.build ty82 pl82 (lkp rfl) rfl rfl) rfl ?_
  refine Ops.s (Stp.alloc ty82 (fun b8 => ?_)) rfl
  refine Ops.e (Stp.store 0 Try.sizeOf82 (lk rfl) (lk rfl) rfl rfl rfl rfl rfl rfl rfl ?_)
  refine Ops.nil ?_
  refine Then.next ?_
  refine Body.seq ?_
  refine Body.seq ?_
  refine Body.region ?_
  refine Ops.d (Det.lda Try.isAgg82 Try.sizeOf82 (lk rfl) (Rds.ow (m := 35) 0 rfl rfl) rfl) rfl ?_
  refine Ops.s (Stp.call rfl Try.call38 (lks rfl) (fun E' le hat => sright_ok E' _ _ _ _) ?_) rfl
  rintro _ _ ⟨rfl, rfl⟩
  refine Ops.u (Dtu.not (lk rfl)) rfl ?_
  refine Ops.nil ?_
  refine Then.next ?_
  refine Body.cond (lk rfl) (fun _ => ?_) (fun hn => absurd hn (by first | (rw [hi]; decide) | simp [hi]))
  refine Body.seq ?_
  refine Body.region ?_
  refine Ops.u (Dtu.asg (lk rfl)) rfl ?_
  refine Ops.u (Dtu.asg (lk rfl)) rfl ?_
  refine Ops.nil ?_
  refine Then.next ?_
  refine Body.ret ?_
  refine Then.ret ?_
  exact ⟨.inr rfl, _, pk [] rfl, rfl, rfl⟩
end Go.Proofs.Ytpmapedhigjalaa
end
section
/- file: a sender as one thing. -/
namespace Go.Proofs.Ytpmapedhigjalaa
set_option maxRecDepth 100000
set_option maxHeartbeats 4000000
set_option linter.unusedVariables false
set_option linter.unusedSimpArgs false
open Go.Sx


def sndA (b : Nat) (z : Snd) (a : Option Addr) (c : Nat) : List HProp := [own b (.bool true :: .int .u64 z.id :: .string z.nm :: .int .i64 (z.bs.length : Nat) :: .int .u8 (z.sm 0) :: .int .u8 (z.sm 1) :: .int .u8 (z.sm 2) :: .int .u8 (z.sm 3) :: .int .u8 (z.sm 4) :: .int .u8 (z.sm 5) :: .int .u8 (z.sm 6) :: .int .u8 (z.sm 7) :: .int .u8 (z.sm 8) :: .int .u8 (z.sm 9) :: .int .u8 (z.sm 10) :: .int .u8 (z.sm 11) :: .int .u8 (z.sm 12) :: .int .u8 (z.sm 13) :: .int .u8 (z.sm 14) :: .int .u8 (z.sm 15) :: .int .u8 (z.sm 16) :: .int .u8 (z.sm 17) :: .int .u8 (z.sm 18) :: .int .u8 (z.sm 19) :: .int .u8 (z.sm 20) :: .int .u8 (z.sm 21) :: .int .u8 (z.sm 22) :: .int .u8 (z.sm 23) :: .int .u8 (z.sm 24) :: .int .u8 (z.sm 25) :: .int .u8 (z.sm 26) :: .int .u8 (z.sm 27) :: .int .u8 (z.sm 28) :: .int .u8 (z.sm 29) :: .int .u8 (z.sm 30) :: .int .u8 (z.sm 31) :: .slice a z.bs.length c :: .int .i64 z.n :: .int .u64 z.x :: .int .i64 z.pos :: .bool z.gone :: []) 104, osl 5 1 (.slice a z.bs.length c) z.bs.length (z.bs.map (.int .u8))]
def sndP (b : Nat) (z : Snd) : HProp := fun h => z.Ok ∧ ∃ a c, Sat (sndA b z a c) h
theorem sndP_out {E : Env} {b : Nat} {z : Snd} {H : List HProp} {w : World} (s : St E (sndP b z :: H) w) : z.Ok ∧ ∃ a c, St E (sndA b z a c ++ H) w := by
  obtain ⟨h, ⟨h1, h2, ⟨ok, a, c, s1⟩, s2, d, rfl⟩, dE, l⟩ := s.has
  exact ⟨ok, a, c, ⟨_, Sat.append.2 ⟨h1, h2, s1, s2, d, rfl⟩, dE, l⟩, s.keep, s.os, s.tape, s.output⟩
theorem sndP_in {E : Env} {b : Nat} {z : Snd} {a : Option Addr} {c : Nat} {H : List HProp} {w : World} (ok : z.Ok) (s : St E (sndA b z a c ++ H) w) : St E (sndP b z :: H) w := by
  obtain ⟨h, s0, dE, l⟩ := s.has
  obtain ⟨h1, h2, s1, s2, d, rfl⟩ := Sat.append.1 s0
  exact ⟨⟨_, ⟨h1, h2, ⟨ok, a, c, s1⟩, s2, d, rfl⟩, dE, l⟩, s.keep, s.os, s.tape, s.output⟩
section
variable {P : Program} {g : FuncId} {args : Array Value} {E : Env} {H : List HProp} {Q Q' : Value → List HProp → Prop}
theorem Does.pst (h : Does P g args E H Q) (k : ∀ v H', Q v H' → ∃ H2, (∀ w, St E H' w → St E H2 w) ∧ Q' v H2) : Does P g args E H Q' := fun w s =>
  (h w s).mono fun _ _ ⟨v, H', e, q, s'⟩ => let ⟨H2, hs, q'⟩ := k v H' q; ⟨v, H2, e, q', hs _ s'⟩
theorem Does.frm {Hc Hf : List HProp} (h : ∀ E', E.Le E' → (∀ A ∈ Hf, At A E') → Does P g args E' Hc Q) : Does P g args E (Hc ++ Hf) fun v H' => ∃ A, Q v A ∧ H' = A ++ Hf := fun w s => by
  obtain ⟨E', le, hat, s1, back⟩ := s.frame
  refine (h E' le hat w s1).mono ?_
  rintro e w' ⟨v, A, rfl, q, s'⟩
  exact ⟨v, A ++ Hf, rfl, ⟨A, q, rfl⟩, back A w' s'⟩
theorem Does.snd {b : Nat} {z : Snd} (h : z.Ok → ∀ a c, Does P g args E (sndA b z a c ++ H) Q) : Does P g args E (sndP b z :: H) Q := fun w s => by
  obtain ⟨ok, a, c, s'⟩ := sndP_out s
  exact h ok a c w s'
/-- a call that asks for the cells alone -/
theorem Does.sndO {b : Nat} {z z2 : Snd} (v : Value) (h2 : z.Ok → z2.Ok) (hb : z2.bs = z.bs) (h : z.Ok → ∀ E' a c, Does P g args E' [own b (.bool true :: .int .u64 z.id :: .string z.nm :: .int .i64 (z.bs.length : Nat) :: .int .u8 (z.sm 0) :: .int .u8 (z.sm 1) :: .int .u8 (z.sm 2) :: .int .u8 (z.sm 3) :: .int .u8 (z.sm 4) :: .int .u8 (z.sm 5) :: .int .u8 (z.sm 6) :: .int .u8 (z.sm 7) :: .int .u8 (z.sm 8) :: .int .u8 (z.sm 9) :: .int .u8 (z.sm 10) :: .int .u8 (z.sm 11) :: .int .u8 (z.sm 12) :: .int .u8 (z.sm 13) :: .int .u8 (z.sm 14) :: .int .u8 (z.sm 15) :: .int .u8 (z.sm 16) :: .int .u8 (z.sm 17) :: .int .u8 (z.sm 18) :: .int .u8 (z.sm 19) :: .int .u8 (z.sm 20) :: .int .u8 (z.sm 21) :: .int .u8 (z.sm 22) :: .int .u8 (z.sm 23) :: .int .u8 (z.sm 24) :: .int .u8 (z.sm 25) :: .int .u8 (z.sm 26) :: .int .u8 (z.sm 27) :: .int .u8 (z.sm 28) :: .int .u8 (z.sm 29) :: .int .u8 (z.sm 30) :: .int .u8 (z.sm 31) :: .slice a z.bs.length c :: .int .i64 z.n :: .int .u64 z.x :: .int .i64 z.pos :: .bool z.gone :: []) 104] fun r H' => r = v ∧ H' = [own b (.bool true :: .int .u64 z2.id :: .string z2.nm :: .int .i64 (z.bs.length : Nat) :: .int .u8 (z2.sm 0) :: .int .u8 (z2.sm 1) :: .int .u8 (z2.sm 2) :: .int .u8 (z2.sm 3) :: .int .u8 (z2.sm 4) :: .int .u8 (z2.sm 5) :: .int .u8 (z2.sm 6) :: .int .u8 (z2.sm 7) :: .int .u8 (z2.sm 8) :: .int .u8 (z2.sm 9) :: .int .u8 (z2.sm 10) :: .int .u8 (z2.sm 11) :: .int .u8 (z2.sm 12) :: .int .u8 (z2.sm 13) :: .int .u8 (z2.sm 14) :: .int .u8 (z2.sm 15) :: .int .u8 (z2.sm 16) :: .int .u8 (z2.sm 17) :: .int .u8 (z2.sm 18) :: .int .u8 (z2.sm 19) :: .int .u8 (z2.sm 20) :: .int .u8 (z2.sm 21) :: .int .u8 (z2.sm 22) :: .int .u8 (z2.sm 23) :: .int .u8 (z2.sm 24) :: .int .u8 (z2.sm 25) :: .int .u8 (z2.sm 26) :: .int .u8 (z2.sm 27) :: .int .u8 (z2.sm 28) :: .int .u8 (z2.sm 29) :: .int .u8 (z2.sm 30) :: .int .u8 (z2.sm 31) :: .slice a z.bs.length c :: .int .i64 z.n :: .int .u64 z2.x :: .int .i64 z2.pos :: .bool z2.gone :: []) 104]) : Does P g args E [sndP b z] fun r H' => r = v ∧ H' = [sndP b z2] := by
  refine Does.snd fun ok a c => ?_
  refine Does.pst (Does.frm (Hc := [_]) (Hf := [_]) fun E' _ _ => h ok E' a c) ?_
  rintro r H' ⟨A, ⟨rfl, rfl⟩, rfl⟩
  obtain ⟨id, nm, bs, sm, x, pos, gone⟩ := z
  obtain ⟨id2, nm2, bs2, sm2, x2, pos2, gone2⟩ := z2
  dsimp only at hb
  subst hb
  exact ⟨_, fun w s => sndP_in (h2 ok) s, rfl, rfl⟩
end
theorem state_s (E : Env) (b : Nat) (z : Snd) : Does Try.prog 53 #[.pointer (some ⟨b, 0, none⟩)] E ([sndP b z]) fun r H' => r = .int .i64 z.st ∧ H' = [sndP b z] := by
  exact Does.sndO _ id rfl fun ok E' a c => sstate_b E' b z ok a c
theorem left_s (E : Env) (b : Nat) (z : Snd) : Does Try.prog 51 #[.pointer (some ⟨b, 0, none⟩)] E ([sndP b z]) fun r H' => r = .int .i64 z.left ∧ H' = [sndP b z] := by
  exact Does.sndO _ id rfl fun ok E' a c => sleft_b E' b z ok a c
theorem info_s (E : Env) (b : Nat) (z : Snd) : Does Try.prog 55 #[.pointer (some ⟨b, 0, none⟩)] E ([sndP b z]) fun r H' => r = .agg (.int .u64 z.id :: .string z.nm :: .int .i64 (z.bs.length : Nat) :: .int .u8 (z.sm 0) :: .int .u8 (z.sm 1) :: .int .u8 (z.sm 2) :: .int .u8 (z.sm 3) :: .int .u8 (z.sm 4) :: .int .u8 (z.sm 5) :: .int .u8 (z.sm 6) :: .int .u8 (z.sm 7) :: .int .u8 (z.sm 8) :: .int .u8 (z.sm 9) :: .int .u8 (z.sm 10) :: .int .u8 (z.sm 11) :: .int .u8 (z.sm 12) :: .int .u8 (z.sm 13) :: .int .u8 (z.sm 14) :: .int .u8 (z.sm 15) :: .int .u8 (z.sm 16) :: .int .u8 (z.sm 17) :: .int .u8 (z.sm 18) :: .int .u8 (z.sm 19) :: .int .u8 (z.sm 20) :: .int .u8 (z.sm 21) :: .int .u8 (z.sm 22) :: .int .u8 (z.sm 23) :: .int .u8 (z.sm 24) :: .int .u8 (z.sm 25) :: .int .u8 (z.sm 26) :: .int .u8 (z.sm 27) :: .int .u8 (z.sm 28) :: .int .u8 (z.sm 29) :: .int .u8 (z.sm 30) :: .int .u8 (z.sm 31) :: []).toArray ∧ H' = [sndP b z] := by
  exact Does.sndO _ id rfl fun ok E' a c => sinfo_b E' b z a c
theorem peek_sn (E : Env) (b : Nat) (z : Snd) (hst : ¬ z.st = 0) : Does Try.prog 40 #[.pointer (some ⟨b, 0, none⟩)] E ([sndP b z]) fun r H' => r = .tuple #[.int .i64 0, .bool false] ∧ H' = [sndP b z] := by
  exact Does.sndO _ id rfl fun ok E' a c => speek_n E' b z ok a c hst
theorem peek_s (E : Env) (b : Nat) (z : Snd) (hst : z.st = 0) : Does Try.prog 40 #[.pointer (some ⟨b, 0, none⟩)] E ([sndP b z]) fun r H' => r = .tuple #[.int .i64 (lenN z.bs.length z.nxt), .bool true] ∧ H' = [sndP b z] := by
  exact Does.sndO _ id rfl fun ok E' a c => speek_y E' b z ok a c hst
theorem next_sn (E : Env) (b : Nat) (z : Snd) (hst : ¬ z.st = 0) : Does Try.prog 45 #[.pointer (some ⟨b, 0, none⟩)] E ([sndP b z]) fun r H' => r = .tuple #[.int .i64 0, .slice none 0 0, .bool false] ∧ H' = [sndP b z] := by
  exact Does.sndO _ id rfl fun ok E' a c => sNext_n E' b z ok a c hst
def Snd.gon (z : Snd) : Snd := ⟨z.id, z.nm, z.bs, z.sm, z.x, z.nxt + 1, z.gone⟩
theorem next_s (E : Env) (b : Nat) (z : Snd) (hst : z.st = 0) : Does Try.prog 45 #[.pointer (some ⟨b, 0, none⟩)] E ([sndP b z]) fun r H' => ∃ a2 c2, r = .tuple #[.int .i64 z.nxt, .slice a2 (lenN z.bs.length z.nxt) c2, .bool true] ∧ H' = [sndP b z.gon, osl 5 1 (.slice a2 (lenN z.bs.length z.nxt) c2) (lenN z.bs.length z.nxt) ((chunk z.bs z.nxt).map (.int .u8))] := by
  refine Does.snd fun ok a c => ?_
  refine Does.pst (sNext_y E b z ok a c hst) ?_
  rintro r H' ⟨a2, c2, rfl, rfl⟩
  exact ⟨[sndP b z.gon, _], fun w s => sndP_in (z := z.gon) (a := a) (c := c) ⟨ok.len, ok.x⟩ s, a2, c2, rfl, rfl⟩
/-- more is known -/
def Snd.know (z : Snd) (n x : Int) : Snd := if askF (bmR n x) n z.n z.gone = 0 then ⟨z.id, z.nm, z.bs, z.sm, z.x ||| x.toNat, z.pos, z.gone⟩ else z
/-- that alone is known -/
def Snd.anew (z : Snd) (n x : Int) : Snd := if askF (bmR n x) n z.n z.gone = 0 then ⟨z.id, z.nm, z.bs, z.sm, x.toNat, 0, z.gone⟩ else z
def Snd.cancel (z : Snd) : Snd := if z.st = 0 then ⟨z.id, z.nm, z.bs, z.sm, z.x, z.pos, true⟩ else z
theorem askF_0 {R G : Bool} {n m : Int} (h : askF R n m G = 0) : R = true ∧ n = m ∧ G = false := by
  unfold askF at h; cases R <;> cases G <;> simp at h ⊢ <;> (try split at h) <;> simp_all
theorem know_s (E : Env) (b : Nat) (z : Snd) (n x : Int) (hx : U64 x) : Does Try.prog 46 #[.pointer (some ⟨b, 0, none⟩), .agg #[.int .i64 n, .int .u64 x]] E ([sndP b z]) fun r H' => r = .int .i64 (askF (bmR n x) n z.n z.gone) ∧ H' = [sndP b (z.know n x)] := by
  by_cases h : askF (bmR n x) n z.n z.gone = 0
  · obtain ⟨h1, h2, h3⟩ := askF_0 h
    rw [Snd.know, if_pos h, h]
    exact Does.sndO _ (fun ok => ok.or hx h1 h2) rfl fun ok E' a c => sknow_y E' b z ok a c n x hx h1 h2 h3
  · rw [Snd.know, if_neg h]
    exact Does.sndO _ id rfl fun ok E' a c => sknow_n E' b z ok a c n x hx h
theorem anew_s (E : Env) (b : Nat) (z : Snd) (n x : Int) (hx : U64 x) : Does Try.prog 48 #[.pointer (some ⟨b, 0, none⟩), .agg #[.int .i64 n, .int .u64 x]] E ([sndP b z]) fun r H' => r = .int .i64 (askF (bmR n x) n z.n z.gone) ∧ H' = [sndP b (z.anew n x)] := by
  by_cases h : askF (bmR n x) n z.n z.gone = 0
  · obtain ⟨h1, h2, h3⟩ := askF_0 h
    rw [Snd.anew, if_pos h, h]
    obtain ⟨x, rfl⟩ := Int.eq_ofNat_of_zero_le hx.1
    refine Does.sndO _ (fun ok => ⟨ok.len, ?_⟩) rfl fun ok E' a c => sanew_y E' b z ok a c n x hx h1 h2 h3
    have := bmR_lt h1 hx.1
    rw [h2, Int.toNat_natCast] at this
    exact this
  · rw [Snd.anew, if_neg h]
    exact Does.sndO _ id rfl fun ok E' a c => sanew_n E' b z ok a c n x hx h
theorem cancel_s (E : Env) (b : Nat) (z : Snd) : Does Try.prog 49 #[.pointer (some ⟨b, 0, none⟩)] E ([sndP b z]) fun r H' => r = .int .i64 (if z.st = 0 then 0 else 7) ∧ H' = [sndP b z.cancel] := by
  by_cases h : z.st = 0
  · rw [Snd.cancel, if_pos h, if_pos h]
    exact Does.sndO _ (fun ok => ⟨ok.len, ok.x⟩) rfl fun ok E' a c => scancel_y E' b z ok a c h
  · rw [Snd.cancel, if_neg h, if_neg h]
    exact Does.sndO _ id rfl fun ok E' a c => scancel_n E' b z ok a c h
def Snd.new (id : Int) (nm : ByteArray) (bs : List Int) : Snd := ⟨id, nm, bs, shaS bs, 0, 0, false⟩
theorem new_s (E : Env) (id : Int) (nm : ByteArray) (bv : Value) (bs : List Int) (hs : Sl E [] 1 bv bs.length (bs.map (.int .u8))) (hb : Byt bs) (hi : infoR id nm bs.length = true) : Does Try.prog 37 #[.int .u64 id, .string nm, bv] E ([]) fun r H' => ∃ b, r = .tuple #[.pointer (some ⟨b, 0, none⟩), .int .i64 0] ∧ H' = [sndP b (Snd.new id nm bs)] := by
  have hl : bs.length ≤ 4096 := by have := of_decide_eq_true hi; omega
  refine Does.pst (snew_b E id nm bv bs hs hb hi) ?_
  rintro r H' ⟨b, a, c, rfl, rfl⟩
  exact ⟨[sndP b (Snd.new id nm bs)], fun w s => sndP_in (z := Snd.new id nm bs) (a := a) (c := c) ⟨hl, Nat.two_pow_pos _⟩ s, b, rfl, rfl⟩
end Go.Proofs.Ytpmapedhigjalaa
end
section
/- file: Costs. -/
namespace Go.Proofs.Ytpmapedhigjalaa
set_option maxRecDepth 100000
set_option maxHeartbeats 4000000
set_option linter.unusedVariables false
set_option linter.unusedSimpArgs false
open Go.Sx


def lat (n f : Nat) (l : List Nat) : List Nat := (l.filter fun i => decide (f ≤ i)).map (lenN n)
def soo (n f : Nat) (l : List Nat) : List Nat := (l.filter fun i => !decide (f ≤ i)).map (lenN n)
theorem take_succ' {l : List Nat} {j : Nat} (h : j < l.length) : l.take (j + 1) = l.take j ++ [l[j]!] := by
  rw [List.take_add_one, List.getElem?_eq_getElem h, getElem!_pos l j h]; rfl
theorem lat_y {n f : Nat} {l : List Nat} {j : Nat} (h : j < l.length) (hf : f ≤ l[j]!) : lat n f (l.take (j + 1)) = lat n f (l.take j) ++ [lenN n l[j]!] ∧ soo n f (l.take (j + 1)) = soo n f (l.take j) := by
  rw [take_succ' h]
  generalize l[j]! = q at *
  simp [lat, soo, List.filter_cons, hf]
theorem lat_n {n f : Nat} {l : List Nat} {j : Nat} (h : j < l.length) (hf : ¬ f ≤ l[j]!) : lat n f (l.take (j + 1)) = lat n f (l.take j) ∧ soo n f (l.take (j + 1)) = soo n f (l.take j) ++ [lenN n l[j]!] := by
  rw [take_succ' h]
  generalize l[j]! = q at *
  simp [lat, soo, List.filter_cons, hf]
theorem lat_len (n f : Nat) (l : List Nat) : (lat n f l).length + (soo n f l).length = l.length := by
  simp only [lat, soo, List.length_map]
  induction l with
  | nil => rfl
  | cons a t ih => by_cases h : f ≤ a <;> simp [h] <;> omega
theorem ints_app (l m : List Nat) : ints (l ++ m) = ints l ++ ints m := by simp [ints]
theorem ints_take (l : List Nat) (k : Nat) : ints (l.take k) = (ints l).take k := by simp [ints]
theorem miss_lt {n x j : Nat} (h : j < (miss n x).length) : (miss n x)[j]! < n := by
  have := List.getElem_mem h
  rw [getElem!_pos _ j h]
  unfold miss at this ⊢
  rw [List.mem_filter, List.mem_range] at this
  exact this.1
def Snd.cost (z : Snd) : List Nat := lat z.bs.length z.nxt (miss z.n z.x) ++ soo z.bs.length z.nxt (miss z.n z.x)
theorem Sl.intsTake {E : Env} {v : Value} {L : List Nat} {k : Nat} (h : Sl E [] 1 v L.length (ints L)) (hk : k ≤ L.length) : Sl E [] 1 (subSl v 1 0 k (capOf v)) k (ints (L.take k)) :=
  Sl.sub' h 0 k (Nat.zero_le _) hk (by rw [ints_take]; simp)
structure SCs where
  j : Nat
  v : Value
  w : Value
theorem scosts_y (E : Env) (b : Nat) (z : Snd) (ok : z.Ok) (a : Option Addr) (c : Nat) (most : Nat) (hm : most ≤ 1000) (hst : z.st = 0) : Does Try.prog 57 #[.pointer (some ⟨b, 0, none⟩), .int .i64 most] E ([own b (.bool true :: .int .u64 z.id :: .string z.nm :: .int .i64 (z.bs.length : Nat) :: .int .u8 (z.sm 0) :: .int .u8 (z.sm 1) :: .int .u8 (z.sm 2) :: .int .u8 (z.sm 3) :: .int .u8 (z.sm 4) :: .int .u8 (z.sm 5) :: .int .u8 (z.sm 6) :: .int .u8 (z.sm 7) :: .int .u8 (z.sm 8) :: .int .u8 (z.sm 9) :: .int .u8 (z.sm 10) :: .int .u8 (z.sm 11) :: .int .u8 (z.sm 12) :: .int .u8 (z.sm 13) :: .int .u8 (z.sm 14) :: .int .u8 (z.sm 15) :: .int .u8 (z.sm 16) :: .int .u8 (z.sm 17) :: .int .u8 (z.sm 18) :: .int .u8 (z.sm 19) :: .int .u8 (z.sm 20) :: .int .u8 (z.sm 21) :: .int .u8 (z.sm 22) :: .int .u8 (z.sm 23) :: .int .u8 (z.sm 24) :: .int .u8 (z.sm 25) :: .int .u8 (z.sm 26) :: .int .u8 (z.sm 27) :: .int .u8 (z.sm 28) :: .int .u8 (z.sm 29) :: .int .u8 (z.sm 30) :: .int .u8 (z.sm 31) :: .slice a z.bs.length c :: .int .i64 z.n :: .int .u64 z.x :: .int .i64 z.pos :: .bool z.gone :: []) 104]) fun r H' => ∃ a2 c2, r = .slice a2 (min most z.cost.length) c2 ∧ H' = [own b (.bool true :: .int .u64 z.id :: .string z.nm :: .int .i64 (z.bs.length : Nat) :: .int .u8 (z.sm 0) :: .int .u8 (z.sm 1) :: .int .u8 (z.sm 2) :: .int .u8 (z.sm 3) :: .int .u8 (z.sm 4) :: .int .u8 (z.sm 5) :: .int .u8 (z.sm 6) :: .int .u8 (z.sm 7) :: .int .u8 (z.sm 8) :: .int .u8 (z.sm 9) :: .int .u8 (z.sm 10) :: .int .u8 (z.sm 11) :: .int .u8 (z.sm 12) :: .int .u8 (z.sm 13) :: .int .u8 (z.sm 14) :: .int .u8 (z.sm 15) :: .int .u8 (z.sm 16) :: .int .u8 (z.sm 17) :: .int .u8 (z.sm 18) :: .int .u8 (z.sm 19) :: .int .u8 (z.sm 20) :: .int .u8 (z.sm 21) :: .int .u8 (z.sm 22) :: .int .u8 (z.sm 23) :: .int .u8 (z.sm 24) :: .int .u8 (z.sm 25) :: .int .u8 (z.sm 26) :: .int .u8 (z.sm 27) :: .int .u8 (z.sm 28) :: .int .u8 (z.sm 29) :: .int .u8 (z.sm 30) :: .int .u8 (z.sm 31) :: .slice a z.bs.length c :: .int .i64 z.n :: .int .u64 z.x :: .int .i64 z.pos :: .bool z.gone :: []) 104, osl 3 1 (.slice a2 (min most z.cost.length) c2) (min most z.cost.length) (ints (z.cost.take (min most z.cost.length)))] := by
  have hmn := Snd.miss_ne ok hst
  have hml := miss_le z.n z.x
  have hr := ok.r
  have hu := ok.u
  have hn := ok.n
  have hL := ok.len
  have hlt : ∀ j, j < (miss z.n z.x).length → (miss z.n z.x)[j]! < (z.bs.length + 63) / 64 := fun j h => miss_lt h
  have hcost : z.cost = lat z.bs.length z.nxt (miss z.n z.x) ++ soo z.bs.length z.nxt (miss z.n z.x) := rfl
  rw [hcost]
  refine Does.go _ _ Try.func57 rfl Try.ntmps57 rfl rfl ?_
  refine Body.seq ?_
  refine Body.region ?_
  refine Ops.u (Dtu.asg (lk rfl)) rfl ?_
  refine Ops.nil ?_
  refine Then.next ?_
  refine Body.seq ?_
  refine Body.region ?_
  refine Ops.u (Dtu.mv (lk rfl)) rfl ?_
  refine Ops.s (Stp.callOwn [0] rfl rfl Try.call92 (lks rfl) (fun E' le hat => snextY_b E' _ _ (by first | assumption | omega) _ _ (by first | assumption | omega)) ?_) rfl
  rintro _ _ ⟨rfl, rfl⟩
  refine Ops.u (Dtu.asg (lk rfl)) rfl ?_
  refine Ops.nil ?_
  refine Then.next ?_
  refine Body.seq ?_
  refine Body.seq ?_
  refine Body.region ?_
  refine Ops.u (Dtu.mv (lk rfl)) rfl ?_
  refine Ops.u (Dtu.lss (lk rfl) (lk rfl)) rfl ?_
  refine Ops.nil ?_
  refine Then.next ?_
  refine Body.condP (lk rfl) (fun hy => absurd hy (by first | omega | assumption | decide)) (fun _ => ?_)
  refine Body.skip ?_
  refine Then.next ?_
  refine Body.seq ?_
  refine Body.region ?_
  refine Ops.u (Dtu.asg (lk rfl)) rfl ?_
  refine Ops.u (Dtu.asg (lk rfl)) rfl ?_
  refine Ops.nil ?_
  refine Then.next ?_
  refine Body.seq ?_
  refine Body.seq ?_
  refine Body.region ?_
  refine Ops.u (Dtu.mv (lk rfl)) rfl ?_
  refine Ops.u (Dtu.nilck (lk rfl)) rfl ?_
  refine Ops.u (Dtu.fld fa104_3 (lk rfl)) rfl ?_
  refine Ops.d (Det.lda Try.isAgg86 Try.sizeOf86 (lk rfl) (Rds.ow (m := 2) 0 rfl rfl) rfl) rfl ?_
  refine Ops.s (Stp.call rfl Try.call99 (lks rfl) (fun E' le hat => bmissN_ok E' _ _ (by first | assumption | omega) (by first | assumption | omega)) ?_) rfl
  rintro _ _ ⟨na20, nc20, rfl, rfl⟩
  refine Ops.u (Dtu.lenS Try.underlying107 (Sl.osl 0 rfl) (lk rfl)) rfl ?_
  refine Ops.u (Dtu.mv (lk rfl)) rfl ?_
  refine Ops.nil ?_
  refine Then.next ?_
  refine Body.block ?_
  generalize miss z.n z.x = l at *
  generalize z.nxt = f at *
  refine Body.conseq (fun w s => osl_nil (t := 3) (sz := 1) (a := none) (osl_nil (t := 3) (sz := 1) (a := none) s)) ?_
  refine Body.loopH (γ := SCs) rfl (fun s => [(22, .int .i64 s.j), (6, s.v), (7, s.w)]) (fun s => [(0, osl 3 1 s.v (lat z.bs.length f (l.take s.j)).length (ints (lat z.bs.length f (l.take s.j)))), (1, osl 3 1 s.w (soo z.bs.length f (l.take s.j)).length (ints (soo z.bs.length f (l.take s.j))))]) (fun s => s.j ≤ l.length) (fun s => l.length - s.j) (⟨0, .slice none 0 0, .slice none 0 0⟩) (Nat.zero_le _) ⟨rfl, rfl, rfl, trivial⟩ rfl ?_
  rintro ⟨j, v, w⟩ u0 hj
  dsimp only at hj ⊢
  have hb1 := lat_len z.bs.length f (l.take j)
  have hb2 : (l.take j).length ≤ j := List.length_take_le ..
  by_cases hlt2 : j < l.length
  · have hxj := ints_get hlt2
    have hi := hlt j hlt2
    by_cases hf : f ≤ l[j]!
    · obtain ⟨e1, e2⟩ := lat_y (n := z.bs.length) hlt2 hf
      have e3 : ints (lat z.bs.length f (l.take (j + 1))) = ints (lat z.bs.length f (l.take j)) ++ [.int .i64 (lenN z.bs.length l[j]! : Nat)] := by rw [e1, ints_app]; rfl
      have e4 : (lat z.bs.length f (l.take (j + 1))).length = (lat z.bs.length f (l.take j)).length + 1 := by rw [e1]; simp
      rw [← e2]
      refine Body.seq ?_
      refine Body.region ?_
      refine Ops.u (Dtu.lss (lk rfl) (lk rfl)) rfl ?_
      refine Ops.nil ?_
      refine Then.next ?_
      refine Body.seq ?_
      refine Body.condP (lk rfl) (fun _ => ?_) (fun hn => absurd (by first | omega | assumption | decide) hn)
      refine Body.skip ?_
      refine Then.next ?_
      refine Body.seq ?_
      refine Body.block ?_
      refine Body.seq ?_
      refine Body.region ?_
      refine Ops.u (Dtu.ix (i := (j)) Try.underlying107 Try.sizeOf3 (Sl.osl 2 rfl) (lk rfl) (lk rfl) (by omega) (by omega)) rfl ?_
      refine Ops.d (Det.ld Try.isAgg3 (lk rfl) (Rd.sl (Sl.osl 2 rfl) (gm (by omega)))) rfl ?_
      refine Ops.u (Dtu.asg (lk rfl)) rfl ?_
      refine Ops.nil ?_
      refine Then.next ?_
      refine Body.seq ?_
      refine Body.region ?_
      refine Ops.u (Dtu.mv (lk rfl)) rfl ?_
      refine Ops.u (Dtu.nilck (lk rfl)) rfl ?_
      refine Ops.u (Dtu.fld fa104_1 (lk rfl)) rfl ?_
      refine Ops.u (Dtu.fld fa82_2 (lk rfl)) rfl ?_
      refine Ops.d (Det.ld Try.isAgg3 (lk rfl) (Rd.ow 3 rfl rfl)) rfl ?_
      refine Ops.u (Dtu.mv (lk rfl)) rfl ?_
      refine Ops.s (Stp.call rfl Try.call63 (lks rfl) (fun E' le hat => slengthN_ok E' _ _ (by first | assumption | omega) (by first | assumption | omega)) ?_) rfl
      rintro _ _ ⟨rfl, rfl⟩
      refine Ops.u (Dtu.asg (lk rfl)) rfl ?_
      refine Ops.nil ?_
      refine Then.next ?_
      refine Body.seq ?_
      refine Body.region ?_
      refine Ops.u (Dtu.mv (lk rfl)) rfl ?_
      refine Ops.u (Dtu.mv (lk rfl)) rfl ?_
      refine Ops.u (Dtu.geq (lk rfl) (lk rfl)) rfl ?_
      refine Ops.nil ?_
      refine Then.next ?_
      refine Body.condP (lk rfl) (fun _ => ?_) (fun hn => absurd (by first | omega | assumption | decide) hn)
      refine Body.region ?_
      refine Ops.u (Dtu.mv (lk rfl)) rfl ?_
      refine Ops.u (Dtu.mv (lk rfl)) rfl ?_
      refine Ops.s (Stp.buildSliceO Try.underlying107 ty3 (by decide) (by decide) (lkp rfl) rfl rfl rfl (by decide) (fun v38 => ?_)) rfl
      refine Ops.s (Stp.append 1 Try.underlying107 ty3 rfl rfl (lk rfl) (lk rfl) (Sl.osl 0 rfl) (by first | rfl | exact all_map (fun _ => rfl) _ | exact all_flat (fun _ => rfl) _) (by omega) (by omega) (fun v39 => ?_)) rfl
      refine Ops.u (Dtu.asg (lk rfl)) rfl ?_
      refine Ops.nil ?_
      refine Blk.norm ?_
      refine Then.next ?_
      refine Body.region ?_
      refine Ops.u (Dtu.add (lk rfl) (lk rfl) (w64 (by omega) (by omega))) rfl ?_
      refine Ops.u (Dtu.mv (lk rfl)) rfl ?_
      refine Ops.nil ?_
      refine Round.goK [1, 1, 1, 1] ⟨j + 1, v39, w⟩ rfl rfl rfl ⟨rfl, rfl, rfl, trivial⟩ rfl (by (try dsimp only); rw [e4, e3]; rfl) (by dsimp only; omega) (by dsimp only; omega)
    · obtain ⟨e1, e2⟩ := lat_n (n := z.bs.length) hlt2 hf
      have e3 : ints (soo z.bs.length f (l.take (j + 1))) = ints (soo z.bs.length f (l.take j)) ++ [.int .i64 (lenN z.bs.length l[j]! : Nat)] := by rw [e2, ints_app]; rfl
      have e4 : (soo z.bs.length f (l.take (j + 1))).length = (soo z.bs.length f (l.take j)).length + 1 := by rw [e2]; simp
      rw [← e1]
      refine Body.seq ?_
      refine Body.region ?_
      refine Ops.u (Dtu.lss (lk rfl) (lk rfl)) rfl ?_
      refine Ops.nil ?_
      refine Then.next ?_
      refine Body.seq ?_
      refine Body.condP (lk rfl) (fun _ => ?_) (fun hn => absurd (by first | omega | assumption | decide) hn)
      refine Body.skip ?_
      refine Then.next ?_
      refine Body.seq ?_
      refine Body.block ?_
      refine Body.seq ?_
      refine Body.region ?_
      refine Ops.u (Dtu.ix (i := (j)) Try.underlying107 Try.sizeOf3 (Sl.osl 2 rfl) (lk rfl) (lk rfl) (by omega) (by omega)) rfl ?_
      refine Ops.d (Det.ld Try.isAgg3 (lk rfl) (Rd.sl (Sl.osl 2 rfl) (gm (by omega)))) rfl ?_
      refine Ops.u (Dtu.asg (lk rfl)) rfl ?_
      refine Ops.nil ?_
      refine Then.next ?_
      refine Body.seq ?_
      refine Body.region ?_
      refine Ops.u (Dtu.mv (lk rfl)) rfl ?_
      refine Ops.u (Dtu.nilck (lk rfl)) rfl ?_
      refine Ops.u (Dtu.fld fa104_1 (lk rfl)) rfl ?_
      refine Ops.u (Dtu.fld fa82_2 (lk rfl)) rfl ?_
      refine Ops.d (Det.ld Try.isAgg3 (lk rfl) (Rd.ow 3 rfl rfl)) rfl ?_
      refine Ops.u (Dtu.mv (lk rfl)) rfl ?_
      refine Ops.s (Stp.call rfl Try.call63 (lks rfl) (fun E' le hat => slengthN_ok E' _ _ (by first | assumption | omega) (by first | assumption | omega)) ?_) rfl
      rintro _ _ ⟨rfl, rfl⟩
      refine Ops.u (Dtu.asg (lk rfl)) rfl ?_
      refine Ops.nil ?_
      refine Then.next ?_
      refine Body.seq ?_
      refine Body.region ?_
      refine Ops.u (Dtu.mv (lk rfl)) rfl ?_
      refine Ops.u (Dtu.mv (lk rfl)) rfl ?_
      refine Ops.u (Dtu.geq (lk rfl) (lk rfl)) rfl ?_
      refine Ops.nil ?_
      refine Then.next ?_
      refine Body.condP (lk rfl) (fun hy => absurd hy (by first | omega | assumption | decide)) (fun _ => ?_)
      refine Body.region ?_
      refine Ops.u (Dtu.mv (lk rfl)) rfl ?_
      refine Ops.u (Dtu.mv (lk rfl)) rfl ?_
      refine Ops.s (Stp.buildSliceO Try.underlying107 ty3 (by decide) (by decide) (lkp rfl) rfl rfl rfl (by decide) (fun v42 => ?_)) rfl
      refine Ops.s (Stp.append 2 Try.underlying107 ty3 rfl rfl (lk rfl) (lk rfl) (Sl.osl 0 rfl) (by first | rfl | exact all_map (fun _ => rfl) _ | exact all_flat (fun _ => rfl) _) (by omega) (by omega) (fun v43 => ?_)) rfl
      refine Ops.u (Dtu.asg (lk rfl)) rfl ?_
      refine Ops.nil ?_
      refine Blk.norm ?_
      refine Then.next ?_
      refine Body.region ?_
      refine Ops.u (Dtu.add (lk rfl) (lk rfl) (w64 (by omega) (by omega))) rfl ?_
      refine Ops.u (Dtu.mv (lk rfl)) rfl ?_
      refine Ops.nil ?_
      refine Round.goK [1, 1, 1, 1] ⟨j + 1, v, v43⟩ rfl rfl rfl ⟨rfl, rfl, rfl, trivial⟩ rfl (by (try dsimp only); rw [e4, e3]; rfl) (by dsimp only; omega) (by dsimp only; omega)
  · obtain rfl : j = l.length := by omega
    rw [List.take_length] at *
    refine Body.seq ?_
    refine Body.region ?_
    refine Ops.u (Dtu.lss (lk rfl) (lk rfl)) rfl ?_
    refine Ops.nil ?_
    refine Then.next ?_
    refine Body.seq ?_
    refine Body.condP (lk rfl) (fun hy => absurd hy (by first | omega | assumption | decide)) (fun _ => ?_)
    refine Body.exit ?_
    refine Then.exit ?_
    refine Round.exit ?_
    refine Blk.here ?_
    refine Then.next ?_
    refine Body.seq ?_
    refine Body.region ?_
    refine Ops.u (Dtu.mv (lk rfl)) rfl ?_
    refine Ops.u (Dtu.mv (lk rfl)) rfl ?_
    refine Ops.s (Stp.append 0 Try.underlying107 ty3 rfl rfl (lk rfl) (lk rfl) (Sl.osl 1 rfl) (by first | rfl | exact all_map (fun _ => rfl) _ | exact all_flat (fun _ => rfl) _) (by omega) (by omega) (fun v47 => ?_)) rfl
    refine Ops.u (Dtu.asg (lk rfl)) rfl ?_
    refine Ops.nil ?_
    refine Then.next ?_
    refine Body.seq ?_
    refine Body.region ?_
    refine Ops.u (Dtu.mv (lk rfl)) rfl ?_
    refine Ops.u (Dtu.mv (lk rfl)) rfl ?_
    refine Ops.u (Dtu.mv (lk rfl)) rfl ?_
    refine Ops.u (Dtu.lenS Try.underlying107 (Sl.osl 0 rfl) (lk rfl)) rfl ?_
    refine Ops.u (Dtu.min (lk rfl) (lk rfl)) rfl ?_
    refine Ops.u (Dtu.max (lk rfl) (lk rfl)) rfl ?_
    rw [← ints_app, ← List.length_append]
    generalize lat z.bs.length f l ++ soo z.bs.length f l = L at *
    rw [show max (0 : Int) (min (most : Int) ((L.length : Nat) : Int)) = ((min most L.length : Nat) : Int) by omega]
    have hk : min most L.length ≤ L.length := Nat.min_le_right ..
    have hk2 : min most L.length ≤ 1000 := Nat.le_trans (Nat.min_le_left ..) hm
    generalize min most L.length = k at *
    refine Ops.u (Dtu.slH (k) Try.underlying107 Try.sizeOf3 (Sl.osl 0 rfl) (lk rfl) (lk rfl) (by omega) (by omega)) rfl ?_
    refine Ops.s (Stp.call rfl Try.call100 (lks rfl) (fun E' le hat => cloneI2_ok E' _ _ (ints (L.take k)) (Sl.intsTake (Sl.hatI hat 0 rfl) hk) (ints_one _) (by omega)) ?_) rfl
    rintro _ _ ⟨ca55, cc55, rfl, rfl⟩
    refine Ops.u (Dtu.asg (lk rfl)) rfl ?_
    refine Ops.nil ?_
    refine Then.next ?_
    refine Body.ret ?_
    exact ⟨.inr rfl, _, pk [4, 0] rfl, _, _, rfl, rfl⟩
theorem scosts_n (E : Env) (b : Nat) (z : Snd) (ok : z.Ok) (a : Option Addr) (c : Nat) (most : Nat) (hst : ¬ z.st = 0) : Does Try.prog 57 #[.pointer (some ⟨b, 0, none⟩), .int .i64 most] E ([own b (.bool true :: .int .u64 z.id :: .string z.nm :: .int .i64 (z.bs.length : Nat) :: .int .u8 (z.sm 0) :: .int .u8 (z.sm 1) :: .int .u8 (z.sm 2) :: .int .u8 (z.sm 3) :: .int .u8 (z.sm 4) :: .int .u8 (z.sm 5) :: .int .u8 (z.sm 6) :: .int .u8 (z.sm 7) :: .int .u8 (z.sm 8) :: .int .u8 (z.sm 9) :: .int .u8 (z.sm 10) :: .int .u8 (z.sm 11) :: .int .u8 (z.sm 12) :: .int .u8 (z.sm 13) :: .int .u8 (z.sm 14) :: .int .u8 (z.sm 15) :: .int .u8 (z.sm 16) :: .int .u8 (z.sm 17) :: .int .u8 (z.sm 18) :: .int .u8 (z.sm 19) :: .int .u8 (z.sm 20) :: .int .u8 (z.sm 21) :: .int .u8 (z.sm 22) :: .int .u8 (z.sm 23) :: .int .u8 (z.sm 24) :: .int .u8 (z.sm 25) :: .int .u8 (z.sm 26) :: .int .u8 (z.sm 27) :: .int .u8 (z.sm 28) :: .int .u8 (z.sm 29) :: .int .u8 (z.sm 30) :: .int .u8 (z.sm 31) :: .slice a z.bs.length c :: .int .i64 z.n :: .int .u64 z.x :: .int .i64 z.pos :: .bool z.gone :: []) 104]) fun r H' => r = .slice none 0 0 ∧ H' = [own b (.bool true :: .int .u64 z.id :: .string z.nm :: .int .i64 (z.bs.length : Nat) :: .int .u8 (z.sm 0) :: .int .u8 (z.sm 1) :: .int .u8 (z.sm 2) :: .int .u8 (z.sm 3) :: .int .u8 (z.sm 4) :: .int .u8 (z.sm 5) :: .int .u8 (z.sm 6) :: .int .u8 (z.sm 7) :: .int .u8 (z.sm 8) :: .int .u8 (z.sm 9) :: .int .u8 (z.sm 10) :: .int .u8 (z.sm 11) :: .int .u8 (z.sm 12) :: .int .u8 (z.sm 13) :: .int .u8 (z.sm 14) :: .int .u8 (z.sm 15) :: .int .u8 (z.sm 16) :: .int .u8 (z.sm 17) :: .int .u8 (z.sm 18) :: .int .u8 (z.sm 19) :: .int .u8 (z.sm 20) :: .int .u8 (z.sm 21) :: .int .u8 (z.sm 22) :: .int .u8 (z.sm 23) :: .int .u8 (z.sm 24) :: .int .u8 (z.sm 25) :: .int .u8 (z.sm 26) :: .int .u8 (z.sm 27) :: .int .u8 (z.sm 28) :: .int .u8 (z.sm 29) :: .int .u8 (z.sm 30) :: .int .u8 (z.sm 31) :: .slice a z.bs.length c :: .int .i64 z.n :: .int .u64 z.x :: .int .i64 z.pos :: .bool z.gone :: []) 104] := by
  have h0 := Snd.next_no hst
  refine Does.go _ _ Try.func57 rfl Try.ntmps57 rfl rfl ?_
  refine Body.seq ?_
  refine Body.region ?_
  refine Ops.u (Dtu.asg (lk rfl)) rfl ?_
  refine Ops.nil ?_
  refine Then.next ?_
  refine Body.seq ?_
  refine Body.region ?_
  refine Ops.u (Dtu.mv (lk rfl)) rfl ?_
  refine Ops.s (Stp.callOwn [0] rfl rfl Try.call92 (lks rfl) (fun E' le hat => snext_b E' _ _ (by first | assumption | omega) _ _) ?_) rfl
  rintro _ _ ⟨rfl, rfl⟩
  refine Ops.u (Dtu.asg (lk rfl)) rfl ?_
  refine Ops.nil ?_
  refine Then.next ?_
  refine Body.seq ?_
  refine Body.seq ?_
  refine Body.region ?_
  refine Ops.u (Dtu.mv (lk rfl)) rfl ?_
  refine Ops.u (Dtu.lss (lk rfl) (lk rfl)) rfl ?_
  refine Ops.nil ?_
  refine Then.next ?_
  refine Body.condP (lk rfl) (fun _ => ?_) (fun hn => absurd (by first | omega | assumption | decide) hn)
  refine Body.seq ?_
  refine Body.region ?_
  refine Ops.u (Dtu.asg (lk rfl)) rfl ?_
  refine Ops.nil ?_
  refine Then.next ?_
  refine Body.ret ?_
  refine Then.ret ?_
  exact ⟨.inr rfl, _, pk [0] rfl, rfl, rfl⟩
theorem costs_s (E : Env) (b : Nat) (z : Snd) (most : Nat) (hm : most ≤ 1000) (hst : z.st = 0) : Does Try.prog 57 #[.pointer (some ⟨b, 0, none⟩), .int .i64 most] E ([sndP b z]) fun r H' => ∃ a2 c2, r = .slice a2 (min most z.cost.length) c2 ∧ H' = [sndP b z, osl 3 1 (.slice a2 (min most z.cost.length) c2) (min most z.cost.length) (ints (z.cost.take (min most z.cost.length)))] := by
  refine Does.snd fun ok a c => ?_
  refine Does.pst (Does.frm (Hc := [_]) (Hf := [_]) fun E' _ _ => scosts_y E' b z ok a c most hm hst) ?_
  rintro r H' ⟨A, ⟨a2, c2, rfl, rfl⟩, rfl⟩
  exact ⟨[sndP b z, _], fun w s => sndP_in ok (pk [0, 1, 0] rfl w s), a2, c2, rfl, rfl⟩
theorem costs_sn (E : Env) (b : Nat) (z : Snd) (most : Nat) (hst : ¬ z.st = 0) : Does Try.prog 57 #[.pointer (some ⟨b, 0, none⟩), .int .i64 most] E ([sndP b z]) fun r H' => r = .slice none 0 0 ∧ H' = [sndP b z] := by
  exact Does.sndO _ id rfl fun ok E' a c => scosts_n E' b z ok a c most hst
end Go.Proofs.Ytpmapedhigjalaa
end
section
/- the document's sender: New, Left, State, Next, Bytes, Know, Cancel. -/
namespace Go.Proofs.Ytpmapedhigjalaa
set_option maxRecDepth 100000
set_option maxHeartbeats 4000000
set_option linter.unusedVariables false
set_option linter.unusedSimpArgs false
open Go.Sx

theorem pc_snoc (n x : Nat) : pc (n + 1) x = pc n x + (if x.testBit n then 1 else 0) := by
  rw [← pc_bl, ← pc_bl, bl_succ, List.count_append]
  cases h : x.testBit n <;> simp
def bls (n x : Nat) : List Value := (bl n x).map .bool
theorem bl_getv {n x i : Nat} (h : i < n) : (bls n x)[i * 1]? = some (.bool (x.testBit i)) := by
  rw [Nat.mul_one, bls, List.getElem?_map, List.getElem?_eq_getElem (by rw [bl_len]; exact h)]; simp [bl]
theorem rleft_b (E : Env) (q : Nat) (z : Snd) (ok : z.Ok) (bv : Value) (la : Option Addr) (lc : Nat) (hL : Sl E [] 1 (.slice la z.n lc) z.n (bls z.n z.x)) : Does Try.prog 52 #[.pointer (some ⟨q, 0, none⟩)] E ([own q [bv, .slice la z.n lc, .int .i64 z.pos, .bool z.gone] 142]) fun r H' => r = .int .i64 z.left ∧ H' = [own q [bv, .slice la z.n lc, .int .i64 z.pos, .bool z.gone] 142] := by
  have hn := ok.n
  have hlen : z.n < 9223372036854775807 := by omega
  cases hg : z.gone
  · have hleft : z.left = z.n - pc z.n z.x := by unfold Snd.left; rw [hg]; rfl
    rw [hleft]
    refine Does.go _ _ Try.func52 rfl Try.ntmps52 rfl rfl ?_
    refine Body.seq ?_
    refine Body.region ?_
    refine Ops.u (Dtu.asg (lk rfl)) rfl ?_
    refine Ops.nil ?_
    refine Then.next ?_
    refine Body.seq ?_
    refine Body.region ?_
    refine Ops.u (Dtu.asg (lk rfl)) rfl ?_
    refine Ops.nil ?_
    refine Then.next ?_
    refine Body.seq ?_
    refine Body.seq ?_
    refine Body.region ?_
    refine Ops.u (Dtu.asg (lk rfl)) rfl ?_
    refine Ops.nil ?_
    refine Then.next ?_
    refine Body.block ?_
    refine Body.loopH (γ := Nat) rfl (fun i => [(4, .int .i64 i), (3, .int .i64 ((i - pc i z.x : Nat) : Int))]) (fun i => []) (fun i => i ≤ z.n) (fun i => z.n - i) (0) (by omega) ⟨rfl, rfl, trivial⟩ rfl ?_
    rintro i u0 hi
    have hp := pc_le i z.x
    by_cases hlt : i < z.n
    · have hb := bl_getv (x := z.x) hlt
      have hs := pc_snoc i z.x
      cases ht : z.x.testBit i <;> rw [ht] at hb hs
      · have hc : (((i - pc i z.x : Nat) : Int) + 1) = ((i + 1 - pc (i + 1) z.x : Nat) : Int) := by simp at hs; omega
        refine Body.seq ?_
        refine Body.seq ?_
        refine Body.region ?_
        refine Ops.u (Dtu.mv (lk rfl)) rfl ?_
        refine Ops.u (Dtu.mv (lk rfl)) rfl ?_
        refine Ops.u (Dtu.nilck (lk rfl)) rfl ?_
        refine Ops.u (Dtu.fld fa142_1 (lk rfl)) rfl ?_
        refine Ops.d (Det.ld Try.isAgg94 (lk rfl) (Rd.ow 0 rfl rfl)) rfl ?_
        refine Ops.u (Dtu.lenS Try.underlying94 (Sl.up hL) (lk rfl)) rfl ?_
        refine Ops.u (Dtu.lss (lk rfl) (lk rfl)) rfl ?_
        refine Ops.u (Dtu.mv (lk rfl)) rfl ?_
        refine Ops.decP 12 rfl (fun _ => ?_) (fun hn => absurd (by first | omega | assumption | decide) hn)
        refine Ops.gu rfl rfl rfl (Dtu.mv (lk rfl)) rfl ?_
        refine Ops.gu rfl rfl rfl (Dtu.nilck (lk rfl)) rfl ?_
        refine Ops.gu rfl rfl rfl (Dtu.fld fa142_3 (lk rfl)) rfl ?_
        refine Ops.gd rfl rfl rfl (Det.ld Try.isAgg4 (lk rfl) (Rd.ow 0 rfl rfl)) rfl ?_
        refine Ops.gu rfl rfl rfl (Dtu.not (lk rfl)) rfl ?_
        refine Ops.u (Dtu.pickT (lk rfl) (lk rfl)) rfl ?_
        refine Ops.nil ?_
        refine Then.next ?_
        refine Body.condT (lk rfl) ?_
        refine Body.skip ?_
        refine Then.next ?_
        refine Body.seq ?_
        refine Body.block ?_
        refine Body.seq ?_
        refine Body.region ?_
        refine Ops.u (Dtu.mv (lk rfl)) rfl ?_
        refine Ops.u (Dtu.nilck (lk rfl)) rfl ?_
        refine Ops.u (Dtu.fld fa142_1 (lk rfl)) rfl ?_
        refine Ops.d (Det.ld Try.isAgg94 (lk rfl) (Rd.ow 0 rfl rfl)) rfl ?_
        refine Ops.u (Dtu.mv (lk rfl)) rfl ?_
        refine Ops.u (Dtu.ix (i := (i)) Try.underlying94 Try.sizeOf4 (Sl.up hL) (lk rfl) (lk rfl) (by omega) (by omega)) rfl ?_
        refine Ops.d (Det.ld Try.isAgg4 (lk rfl) (Rd.sl (Sl.up hL) (by with_reducible assumption))) rfl ?_
        refine Ops.u (Dtu.not (lk rfl)) rfl ?_
        refine Ops.nil ?_
        refine Then.next ?_
        refine Body.condT (lk rfl) ?_
        refine Body.region ?_
        refine Ops.u (Dtu.mv (lk rfl)) rfl ?_
        refine Ops.u (Dtu.add (lk rfl) (lk rfl) (w64 (by omega) (by omega))) rfl ?_
        refine Ops.u (Dtu.asg (lk rfl)) rfl ?_
        refine Ops.nil ?_
        refine Blk.norm ?_
        refine Then.next ?_
        refine Body.region ?_
        refine Ops.u (Dtu.mv (lk rfl)) rfl ?_
        refine Ops.u (Dtu.add (lk rfl) (lk rfl) (w64 (by omega) (by omega))) rfl ?_
        refine Ops.u (Dtu.asg (lk rfl)) rfl ?_
        refine Ops.nil ?_
        refine Round.goK [0] (i + 1) rfl rfl rfl ⟨rfl, int_eq (by exact hc), trivial⟩ rfl rfl (by omega) (by omega)
      · have hc : ((i - pc i z.x : Nat) : Int) = ((i + 1 - pc (i + 1) z.x : Nat) : Int) := by simp at hs; omega
        refine Body.seq ?_
        refine Body.seq ?_
        refine Body.region ?_
        refine Ops.u (Dtu.mv (lk rfl)) rfl ?_
        refine Ops.u (Dtu.mv (lk rfl)) rfl ?_
        refine Ops.u (Dtu.nilck (lk rfl)) rfl ?_
        refine Ops.u (Dtu.fld fa142_1 (lk rfl)) rfl ?_
        refine Ops.d (Det.ld Try.isAgg94 (lk rfl) (Rd.ow 0 rfl rfl)) rfl ?_
        refine Ops.u (Dtu.lenS Try.underlying94 (Sl.up hL) (lk rfl)) rfl ?_
        refine Ops.u (Dtu.lss (lk rfl) (lk rfl)) rfl ?_
        refine Ops.u (Dtu.mv (lk rfl)) rfl ?_
        refine Ops.decP 12 rfl (fun _ => ?_) (fun hn => absurd (by first | omega | assumption | decide) hn)
        refine Ops.gu rfl rfl rfl (Dtu.mv (lk rfl)) rfl ?_
        refine Ops.gu rfl rfl rfl (Dtu.nilck (lk rfl)) rfl ?_
        refine Ops.gu rfl rfl rfl (Dtu.fld fa142_3 (lk rfl)) rfl ?_
        refine Ops.gd rfl rfl rfl (Det.ld Try.isAgg4 (lk rfl) (Rd.ow 0 rfl rfl)) rfl ?_
        refine Ops.gu rfl rfl rfl (Dtu.not (lk rfl)) rfl ?_
        refine Ops.u (Dtu.pickT (lk rfl) (lk rfl)) rfl ?_
        refine Ops.nil ?_
        refine Then.next ?_
        refine Body.condT (lk rfl) ?_
        refine Body.skip ?_
        refine Then.next ?_
        refine Body.seq ?_
        refine Body.block ?_
        refine Body.seq ?_
        refine Body.region ?_
        refine Ops.u (Dtu.mv (lk rfl)) rfl ?_
        refine Ops.u (Dtu.nilck (lk rfl)) rfl ?_
        refine Ops.u (Dtu.fld fa142_1 (lk rfl)) rfl ?_
        refine Ops.d (Det.ld Try.isAgg94 (lk rfl) (Rd.ow 0 rfl rfl)) rfl ?_
        refine Ops.u (Dtu.mv (lk rfl)) rfl ?_
        refine Ops.u (Dtu.ix (i := (i)) Try.underlying94 Try.sizeOf4 (Sl.up hL) (lk rfl) (lk rfl) (by omega) (by omega)) rfl ?_
        refine Ops.d (Det.ld Try.isAgg4 (lk rfl) (Rd.sl (Sl.up hL) (by with_reducible assumption))) rfl ?_
        refine Ops.u (Dtu.not (lk rfl)) rfl ?_
        refine Ops.nil ?_
        refine Then.next ?_
        refine Body.condF (lk rfl) ?_
        refine Body.skip ?_
        refine Blk.norm ?_
        refine Then.next ?_
        refine Body.region ?_
        refine Ops.u (Dtu.mv (lk rfl)) rfl ?_
        refine Ops.u (Dtu.add (lk rfl) (lk rfl) (w64 (by omega) (by omega))) rfl ?_
        refine Ops.u (Dtu.asg (lk rfl)) rfl ?_
        refine Ops.nil ?_
        refine Round.goK [0] (i + 1) rfl rfl rfl ⟨rfl, int_eq (by exact hc), trivial⟩ rfl rfl (by omega) (by omega)
    · obtain rfl : i = z.n := by omega
      refine Body.seq ?_
      refine Body.seq ?_
      refine Body.region ?_
      refine Ops.u (Dtu.mv (lk rfl)) rfl ?_
      refine Ops.u (Dtu.mv (lk rfl)) rfl ?_
      refine Ops.u (Dtu.nilck (lk rfl)) rfl ?_
      refine Ops.u (Dtu.fld fa142_1 (lk rfl)) rfl ?_
      refine Ops.d (Det.ld Try.isAgg94 (lk rfl) (Rd.ow 0 rfl rfl)) rfl ?_
      refine Ops.u (Dtu.lenS Try.underlying94 (Sl.up hL) (lk rfl)) rfl ?_
      refine Ops.u (Dtu.lss (lk rfl) (lk rfl)) rfl ?_
      refine Ops.u (Dtu.mv (lk rfl)) rfl ?_
      refine Ops.decP 12 rfl (fun hy => absurd hy (by first | omega | assumption | decide)) (fun _ => ?_)
      refine Ops.gn rfl rfl rfl rfl rfl ?_
      refine Ops.gn rfl rfl rfl rfl rfl ?_
      refine Ops.gn rfl rfl rfl rfl rfl ?_
      refine Ops.gn rfl rfl rfl rfl rfl ?_
      refine Ops.gn rfl rfl rfl rfl rfl ?_
      refine Ops.u (Dtu.pickF (lk rfl) (lk rfl)) rfl ?_
      refine Ops.nil ?_
      refine Then.next ?_
      refine Body.condF (lk rfl) ?_
      refine Body.exit ?_
      refine Then.exit ?_
      refine Round.exit ?_
      refine Blk.here ?_
      refine Then.next ?_
      refine Body.seq ?_
      refine Body.region ?_
      refine Ops.u (Dtu.mv (lk rfl)) rfl ?_
      refine Ops.u (Dtu.asg (lk rfl)) rfl ?_
      refine Ops.nil ?_
      refine Then.next ?_
      refine Body.ret ?_
      exact ⟨.inr rfl, _, pk [0] rfl, rfl, rfl⟩
  · have hleft : z.left = 0 := by unfold Snd.left; rw [hg]; rfl
    rw [hleft]
    refine Does.go _ _ Try.func52 rfl Try.ntmps52 rfl rfl ?_
    refine Body.seq ?_
    refine Body.region ?_
    refine Ops.u (Dtu.asg (lk rfl)) rfl ?_
    refine Ops.nil ?_
    refine Then.next ?_
    refine Body.seq ?_
    refine Body.region ?_
    refine Ops.u (Dtu.asg (lk rfl)) rfl ?_
    refine Ops.nil ?_
    refine Then.next ?_
    refine Body.seq ?_
    refine Body.seq ?_
    refine Body.region ?_
    refine Ops.u (Dtu.asg (lk rfl)) rfl ?_
    refine Ops.nil ?_
    refine Then.next ?_
    refine Body.block ?_
    refine Body.loopH (γ := Nat) rfl (fun i => [(4, .int .i64 i), (3, .int .i64 0)]) (fun i => []) (fun i => i ≤ z.n) (fun i => z.n - i) (0) (by omega) ⟨rfl, rfl, trivial⟩ rfl ?_
    rintro i u0 hi
    by_cases hlt : i < z.n
    · refine Body.seq ?_
      refine Body.seq ?_
      refine Body.region ?_
      refine Ops.u (Dtu.mv (lk rfl)) rfl ?_
      refine Ops.u (Dtu.mv (lk rfl)) rfl ?_
      refine Ops.u (Dtu.nilck (lk rfl)) rfl ?_
      refine Ops.u (Dtu.fld fa142_1 (lk rfl)) rfl ?_
      refine Ops.d (Det.ld Try.isAgg94 (lk rfl) (Rd.ow 0 rfl rfl)) rfl ?_
      refine Ops.u (Dtu.lenS Try.underlying94 (Sl.up hL) (lk rfl)) rfl ?_
      refine Ops.u (Dtu.lss (lk rfl) (lk rfl)) rfl ?_
      refine Ops.u (Dtu.mv (lk rfl)) rfl ?_
      refine Ops.decP 12 rfl (fun _ => ?_) (fun hn => absurd (by first | omega | assumption | decide) hn)
      refine Ops.gu rfl rfl rfl (Dtu.mv (lk rfl)) rfl ?_
      refine Ops.gu rfl rfl rfl (Dtu.nilck (lk rfl)) rfl ?_
      refine Ops.gu rfl rfl rfl (Dtu.fld fa142_3 (lk rfl)) rfl ?_
      refine Ops.gd rfl rfl rfl (Det.ld Try.isAgg4 (lk rfl) (Rd.ow 0 rfl rfl)) rfl ?_
      refine Ops.gu rfl rfl rfl (Dtu.not (lk rfl)) rfl ?_
      refine Ops.u (Dtu.pickT (lk rfl) (lk rfl)) rfl ?_
      refine Ops.nil ?_
      refine Then.next ?_
      refine Body.condF (lk rfl) ?_
      refine Body.exit ?_
      refine Then.exit ?_
      refine Round.exit ?_
      refine Blk.here ?_
      refine Then.next ?_
      refine Body.seq ?_
      refine Body.region ?_
      refine Ops.u (Dtu.mv (lk rfl)) rfl ?_
      refine Ops.u (Dtu.asg (lk rfl)) rfl ?_
      refine Ops.nil ?_
      refine Then.next ?_
      refine Body.ret ?_
      exact ⟨.inr rfl, _, pk [0] rfl, rfl, rfl⟩
    · refine Body.seq ?_
      refine Body.seq ?_
      refine Body.region ?_
      refine Ops.u (Dtu.mv (lk rfl)) rfl ?_
      refine Ops.u (Dtu.mv (lk rfl)) rfl ?_
      refine Ops.u (Dtu.nilck (lk rfl)) rfl ?_
      refine Ops.u (Dtu.fld fa142_1 (lk rfl)) rfl ?_
      refine Ops.d (Det.ld Try.isAgg94 (lk rfl) (Rd.ow 0 rfl rfl)) rfl ?_
      refine Ops.u (Dtu.lenS Try.underlying94 (Sl.up hL) (lk rfl)) rfl ?_
      refine Ops.u (Dtu.lss (lk rfl) (lk rfl)) rfl ?_
      refine Ops.u (Dtu.mv (lk rfl)) rfl ?_
      refine Ops.decP 12 rfl (fun hy => absurd hy (by first | omega | assumption | decide)) (fun _ => ?_)
      refine Ops.gn rfl rfl rfl rfl rfl ?_
      refine Ops.gn rfl rfl rfl rfl rfl ?_
      refine Ops.gn rfl rfl rfl rfl rfl ?_
      refine Ops.gn rfl rfl rfl rfl rfl ?_
      refine Ops.gn rfl rfl rfl rfl rfl ?_
      refine Ops.u (Dtu.pickF (lk rfl) (lk rfl)) rfl ?_
      refine Ops.nil ?_
      refine Then.next ?_
      refine Body.condF (lk rfl) ?_
      refine Body.exit ?_
      refine Then.exit ?_
      refine Round.exit ?_
      refine Blk.here ?_
      refine Then.next ?_
      refine Body.seq ?_
      refine Body.region ?_
      refine Ops.u (Dtu.mv (lk rfl)) rfl ?_
      refine Ops.u (Dtu.asg (lk rfl)) rfl ?_
      refine Ops.nil ?_
      refine Then.next ?_
      refine Body.ret ?_
      exact ⟨.inr rfl, _, pk [0] rfl, rfl, rfl⟩
end Go.Proofs.Ytpmapedhigjalaa
end
section
/- the document's sender: State, Next, Bytes, Cancel. -/
namespace Go.Proofs.Ytpmapedhigjalaa
set_option maxRecDepth 100000
set_option maxHeartbeats 4000000
set_option linter.unusedVariables false
set_option linter.unusedSimpArgs false
open Go.Sx

theorem pc_full {n x : Nat} (hx : x < 2 ^ n) : pc n x = n ↔ (x : Int) = allN n := by
  have he : allN (n : Int) = ((2 ^ n - 1 : Nat) : Int) := by
    rw [allN, Int.toNat_natCast, Int.ofNat_sub Nat.one_le_two_pow]; simp
  rw [he, Int.ofNat_inj, ← pc_bl]
  constructor
  · intro h
    refine bits_all hx fun i hi => ?_
    have h2 := (List.count_eq_length (a := true) (l := bl n x)).1 (by rw [h, bl_len])
    have := h2 (x.testBit i) (by simp only [bl, List.mem_map, List.mem_range]; exact ⟨i, hi, rfl⟩)
    exact this.symm
  · intro h
    rw [List.count_eq_length.2, bl_len]
    intro b hb
    simp only [bl, List.mem_map, List.mem_range] at hb
    obtain ⟨i, hi, rfl⟩ := hb
    rw [h, Nat.testBit_two_pow_sub_one]; simp [hi]
theorem Snd.left_st {z : Snd} (ok : z.Ok) (hg : z.gone = false) : z.left = 0 ↔ z.st = 2 := by
  have h1 := pc_full ok.x
  have h2 := pc_le z.n z.x
  unfold Snd.left Snd.st Snd.full
  rw [hg]
  simp only [Bool.false_eq_true, if_false, decide_eq_true_eq]
  by_cases h0 : (z.x : Int) = allN z.n
  · rw [if_pos h0]; have := h1.2 h0; omega
  · rw [if_neg h0]
    have : pc z.n z.x ≠ z.n := fun k => h0 (h1.1 k)
    omega
theorem rstate_b (E : Env) (q : Nat) (z : Snd) (ok : z.Ok) (bv : Value) (la : Option Addr) (lc : Nat) (hL : Sl E [] 1 (.slice la z.n lc) z.n (bls z.n z.x)) : Does Try.prog 54 #[.pointer (some ⟨q, 0, none⟩)] E ([own q [bv, .slice la z.n lc, .int .i64 z.pos, .bool z.gone] 142]) fun r H' => r = .int .i64 z.st ∧ H' = [own q [bv, .slice la z.n lc, .int .i64 z.pos, .bool z.gone] 142] := by
  have hls := fun hg => Snd.left_st ok hg
  refine Does.go _ _ Try.func54 rfl Try.ntmps54 rfl rfl ?_
  rcases Bool.eq_false_or_eq_true z.gone with hg | hg
  · have h2 : z.st = 1 := by unfold Snd.st; rw [hg]; rfl
    rw [h2]
    refine Body.seq ?_
    refine Body.region ?_
    refine Ops.u (Dtu.asg (lk rfl)) rfl ?_
    refine Ops.nil ?_
    refine Then.next ?_
    refine Body.seq ?_
    refine Body.seq ?_
    refine Body.region ?_
    refine Ops.u (Dtu.mv (lk rfl)) rfl ?_
    refine Ops.u (Dtu.nilck (lk rfl)) rfl ?_
    refine Ops.u (Dtu.fld fa142_3 (lk rfl)) rfl ?_
    refine Ops.d (Det.ld Try.isAgg4 (lk rfl) (Rd.ow 0 rfl rfl)) rfl ?_
    refine Ops.nil ?_
    refine Then.next ?_
    refine Body.cond (lk rfl) (fun _ => ?_) (fun hn => absurd hn (by first | (rw [hg]; decide) | simp [hg]))
    refine Body.seq ?_
    refine Body.region ?_
    refine Ops.u (Dtu.asg (lk rfl)) rfl ?_
    refine Ops.nil ?_
    refine Then.next ?_
    refine Body.ret ?_
    refine Then.ret ?_
    exact ⟨.inr rfl, _, pk [0] rfl, rfl, rfl⟩
  · have hls := hls hg
    by_cases h : z.left = 0
    · have h2 := hls.1 h
      rw [h2]
      refine Body.seq ?_
      refine Body.region ?_
      refine Ops.u (Dtu.asg (lk rfl)) rfl ?_
      refine Ops.nil ?_
      refine Then.next ?_
      refine Body.seq ?_
      refine Body.seq ?_
      refine Body.region ?_
      refine Ops.u (Dtu.mv (lk rfl)) rfl ?_
      refine Ops.u (Dtu.nilck (lk rfl)) rfl ?_
      refine Ops.u (Dtu.fld fa142_3 (lk rfl)) rfl ?_
      refine Ops.d (Det.ld Try.isAgg4 (lk rfl) (Rd.ow 0 rfl rfl)) rfl ?_
      refine Ops.nil ?_
      refine Then.next ?_
      refine Body.cond (lk rfl) (fun hn => absurd hn (by first | (rw [hg]; decide) | simp [hg])) (fun _ => ?_)
      refine Body.skip ?_
      refine Then.next ?_
      refine Body.seq ?_
      refine Body.seq ?_
      refine Body.region ?_
      refine Ops.u (Dtu.mv (lk rfl)) rfl ?_
      refine Ops.s (Stp.callOwn [0] rfl rfl Try.call52 (lks rfl) (fun E' le hat => rleft_b E' _ _ (by first | assumption | omega) _ _ _ (by first | exact Sl.mono (by assumption) le | exact Sl.hatI hat 0 rfl | exact Sl.hatI hat 1 rfl | exact Sl.hatI hat 2 rfl | exact Sl.hatI hat 3 rfl | exact Sl.hatI hat 4 rfl | exact Sl.hatI hat 5 rfl | exact Sl.hatI hat 6 rfl | exact Sl.hatI hat 7 rfl | exact Sl.hatI hat 8 rfl | exact Sl.hatI hat 9 rfl | exact Sl.hatI hat 10 rfl | exact Sl.hatI hat 11 rfl | exact Sl.hatI hat 12 rfl | exact Sl.hatI hat 13 rfl | exact Sl.hatI hat 14 rfl | exact Sl.hatI hat 15 rfl | exact Sl.hatW hat 0 rfl | exact Sl.hatW hat 1 rfl | exact Sl.hatW hat 2 rfl | exact Sl.hatW hat 3 rfl | exact Sl.hatW hat 4 rfl | exact Sl.hatW hat 5 rfl | exact Sl.hatW hat 6 rfl | exact Sl.hatW hat 7 rfl | exact Sl.hatW hat 8 rfl | exact Sl.hatW hat 9 rfl)) ?_) rfl
      rintro _ _ ⟨rfl, rfl⟩
      refine Ops.u (Dtu.eql (lk rfl) (lk rfl)) rfl ?_
      refine Ops.nil ?_
      refine Then.next ?_
      refine Body.condP (lk rfl) (fun _ => ?_) (fun hn => absurd (by first | omega | assumption | decide) hn)
      refine Body.seq ?_
      refine Body.region ?_
      refine Ops.u (Dtu.asg (lk rfl)) rfl ?_
      refine Ops.nil ?_
      refine Then.next ?_
      refine Body.ret ?_
      refine Then.ret ?_
      exact ⟨.inr rfl, _, pk [0] rfl, rfl, rfl⟩
    · have h2 : z.st = 0 := by
        unfold Snd.st at hls ⊢
        rw [hg] at hls ⊢
        cases hf : z.full <;> rw [hf] at hls <;> simp at hls ⊢
        exact h hls
      rw [h2]
      refine Body.seq ?_
      refine Body.region ?_
      refine Ops.u (Dtu.asg (lk rfl)) rfl ?_
      refine Ops.nil ?_
      refine Then.next ?_
      refine Body.seq ?_
      refine Body.seq ?_
      refine Body.region ?_
      refine Ops.u (Dtu.mv (lk rfl)) rfl ?_
      refine Ops.u (Dtu.nilck (lk rfl)) rfl ?_
      refine Ops.u (Dtu.fld fa142_3 (lk rfl)) rfl ?_
      refine Ops.d (Det.ld Try.isAgg4 (lk rfl) (Rd.ow 0 rfl rfl)) rfl ?_
      refine Ops.nil ?_
      refine Then.next ?_
      refine Body.cond (lk rfl) (fun hn => absurd hn (by first | (rw [hg]; decide) | simp [hg])) (fun _ => ?_)
      refine Body.skip ?_
      refine Then.next ?_
      refine Body.seq ?_
      refine Body.seq ?_
      refine Body.region ?_
      refine Ops.u (Dtu.mv (lk rfl)) rfl ?_
      refine Ops.s (Stp.callOwn [0] rfl rfl Try.call52 (lks rfl) (fun E' le hat => rleft_b E' _ _ (by first | assumption | omega) _ _ _ (by first | exact Sl.mono (by assumption) le | exact Sl.hatI hat 0 rfl | exact Sl.hatI hat 1 rfl | exact Sl.hatI hat 2 rfl | exact Sl.hatI hat 3 rfl | exact Sl.hatI hat 4 rfl | exact Sl.hatI hat 5 rfl | exact Sl.hatI hat 6 rfl | exact Sl.hatI hat 7 rfl | exact Sl.hatI hat 8 rfl | exact Sl.hatI hat 9 rfl | exact Sl.hatI hat 10 rfl | exact Sl.hatI hat 11 rfl | exact Sl.hatI hat 12 rfl | exact Sl.hatI hat 13 rfl | exact Sl.hatI hat 14 rfl | exact Sl.hatI hat 15 rfl | exact Sl.hatW hat 0 rfl | exact Sl.hatW hat 1 rfl | exact Sl.hatW hat 2 rfl | exact Sl.hatW hat 3 rfl | exact Sl.hatW hat 4 rfl | exact Sl.hatW hat 5 rfl | exact Sl.hatW hat 6 rfl | exact Sl.hatW hat 7 rfl | exact Sl.hatW hat 8 rfl | exact Sl.hatW hat 9 rfl)) ?_) rfl
      rintro _ _ ⟨rfl, rfl⟩
      refine Ops.u (Dtu.eql (lk rfl) (lk rfl)) rfl ?_
      refine Ops.nil ?_
      refine Then.next ?_
      refine Body.condP (lk rfl) (fun hy => absurd hy (by first | omega | assumption | decide)) (fun _ => ?_)
      refine Body.skip ?_
      refine Then.next ?_
      refine Body.seq ?_
      refine Body.region ?_
      refine Ops.u (Dtu.asg (lk rfl)) rfl ?_
      refine Ops.nil ?_
      refine Then.next ?_
      refine Body.ret ?_
      exact ⟨.inr rfl, _, pk [0] rfl, rfl, rfl⟩
theorem rcancel_b (E : Env) (q : Nat) (z : Snd) (ok : z.Ok) (bv : Value) (la : Option Addr) (lc : Nat) (hL : Sl E [] 1 (.slice la z.n lc) z.n (bls z.n z.x)) : Does Try.prog 50 #[.pointer (some ⟨q, 0, none⟩)] E ([own q [bv, .slice la z.n lc, .int .i64 z.pos, .bool z.gone] 142]) fun r H' => r = .int .i64 (if z.st = 0 then 0 else 7) ∧ H' = [own q [bv, .slice la z.n lc, .int .i64 z.pos, .bool (if z.st = 0 then true else z.gone)] 142] := by
  refine Does.go _ _ Try.func50 rfl Try.ntmps50 rfl rfl ?_
  by_cases h : z.st = 0
  · rw [if_pos h, if_pos h]
    refine Body.seq ?_
    refine Body.region ?_
    refine Ops.u (Dtu.asg (lk rfl)) rfl ?_
    refine Ops.nil ?_
    refine Then.next ?_
    refine Body.seq ?_
    refine Body.seq ?_
    refine Body.region ?_
    refine Ops.u (Dtu.mv (lk rfl)) rfl ?_
    refine Ops.s (Stp.callOwn [0] rfl rfl Try.call54 (lks rfl) (fun E' le hat => rstate_b E' _ _ (by first | assumption | omega) _ _ _ (by first | exact Sl.mono (by assumption) le | exact Sl.hatI hat 0 rfl | exact Sl.hatI hat 1 rfl | exact Sl.hatI hat 2 rfl | exact Sl.hatI hat 3 rfl | exact Sl.hatI hat 4 rfl | exact Sl.hatI hat 5 rfl | exact Sl.hatI hat 6 rfl | exact Sl.hatI hat 7 rfl | exact Sl.hatI hat 8 rfl | exact Sl.hatI hat 9 rfl | exact Sl.hatI hat 10 rfl | exact Sl.hatI hat 11 rfl | exact Sl.hatI hat 12 rfl | exact Sl.hatI hat 13 rfl | exact Sl.hatI hat 14 rfl | exact Sl.hatI hat 15 rfl | exact Sl.hatW hat 0 rfl | exact Sl.hatW hat 1 rfl | exact Sl.hatW hat 2 rfl | exact Sl.hatW hat 3 rfl | exact Sl.hatW hat 4 rfl | exact Sl.hatW hat 5 rfl | exact Sl.hatW hat 6 rfl | exact Sl.hatW hat 7 rfl | exact Sl.hatW hat 8 rfl | exact Sl.hatW hat 9 rfl)) ?_) rfl
    rintro _ _ ⟨rfl, rfl⟩
    refine Ops.u (Dtu.neq (lk rfl) (lk rfl)) rfl ?_
    refine Ops.nil ?_
    refine Then.next ?_
    refine Body.condP (lk rfl) (fun hy => absurd hy (by first | omega | assumption | decide)) (fun _ => ?_)
    refine Body.skip ?_
    refine Then.next ?_
    refine Body.seq ?_
    refine Body.region ?_
    refine Ops.u (Dtu.mv (lk rfl)) rfl ?_
    refine Ops.u (Dtu.nilck (lk rfl)) rfl ?_
    refine Ops.u (Dtu.fld fa142_3 (lk rfl)) rfl ?_
    refine Ops.e (Stp.store 0 Try.sizeOf4 (lk rfl) (lk rfl) rfl rfl rfl rfl rfl rfl rfl ?_)
    refine Ops.nil ?_
    refine Then.next ?_
    refine Body.seq ?_
    refine Body.region ?_
    refine Ops.u (Dtu.asg (lk rfl)) rfl ?_
    refine Ops.nil ?_
    refine Then.next ?_
    refine Body.ret ?_
    exact ⟨.inr rfl, _, pk [0] rfl, rfl, rfl⟩
  · rw [if_neg h, if_neg h]
    refine Body.seq ?_
    refine Body.region ?_
    refine Ops.u (Dtu.asg (lk rfl)) rfl ?_
    refine Ops.nil ?_
    refine Then.next ?_
    refine Body.seq ?_
    refine Body.seq ?_
    refine Body.region ?_
    refine Ops.u (Dtu.mv (lk rfl)) rfl ?_
    refine Ops.s (Stp.callOwn [0] rfl rfl Try.call54 (lks rfl) (fun E' le hat => rstate_b E' _ _ (by first | assumption | omega) _ _ _ (by first | exact Sl.mono (by assumption) le | exact Sl.hatI hat 0 rfl | exact Sl.hatI hat 1 rfl | exact Sl.hatI hat 2 rfl | exact Sl.hatI hat 3 rfl | exact Sl.hatI hat 4 rfl | exact Sl.hatI hat 5 rfl | exact Sl.hatI hat 6 rfl | exact Sl.hatI hat 7 rfl | exact Sl.hatI hat 8 rfl | exact Sl.hatI hat 9 rfl | exact Sl.hatI hat 10 rfl | exact Sl.hatI hat 11 rfl | exact Sl.hatI hat 12 rfl | exact Sl.hatI hat 13 rfl | exact Sl.hatI hat 14 rfl | exact Sl.hatI hat 15 rfl | exact Sl.hatW hat 0 rfl | exact Sl.hatW hat 1 rfl | exact Sl.hatW hat 2 rfl | exact Sl.hatW hat 3 rfl | exact Sl.hatW hat 4 rfl | exact Sl.hatW hat 5 rfl | exact Sl.hatW hat 6 rfl | exact Sl.hatW hat 7 rfl | exact Sl.hatW hat 8 rfl | exact Sl.hatW hat 9 rfl)) ?_) rfl
    rintro _ _ ⟨rfl, rfl⟩
    refine Ops.u (Dtu.neq (lk rfl) (lk rfl)) rfl ?_
    refine Ops.nil ?_
    refine Then.next ?_
    refine Body.condP (lk rfl) (fun _ => ?_) (fun hn => absurd (by first | omega | assumption | decide) hn)
    refine Body.seq ?_
    refine Body.region ?_
    refine Ops.u (Dtu.asg (lk rfl)) rfl ?_
    refine Ops.nil ?_
    refine Then.next ?_
    refine Body.ret ?_
    refine Then.ret ?_
    exact ⟨.inr rfl, _, pk [0] rfl, rfl, rfl⟩
theorem miss_mem {n x i : Nat} : i ∈ miss n x ↔ i < n ∧ x.testBit i = false := by simp [miss]
theorem miss_find {n x p : Nat} : (miss n x).find? (fun i => decide (p ≤ i)) = (List.range n).find? fun i => (!x.testBit i) && decide (p ≤ i) := by
  rw [miss, List.find?_filter]; congr 1; funext a; simp
theorem nx_first {n x p i : Nat} (hi : i < n) (hb : x.testBit i = false) (hp : p ≤ i) (hl : ∀ j, j < i → x.testBit j = false → j < p) : nx (miss n x) p = i := by
  unfold nx
  rw [miss_find, List.find?_range_eq_some (i := i) |>.2 ⟨by rw [hb]; simp [hp], by simpa using hi, fun j hj => ?_⟩]
  · rfl
  · cases hbj : x.testBit j
    · have := hl j hj hbj; simp; omega
    · simp
theorem nx_wrap {n x p i : Nat} (hi : i < n) (hb : x.testBit i = false) (hl : ∀ j, j < n → x.testBit j = false → j < p) (hf : ∀ j, j < i → x.testBit j = true) : nx (miss n x) p = i := by
  have h1 : (miss n x).find? (fun i => decide (p ≤ i)) = none := by
    rw [List.find?_eq_none]
    intro k hk
    have := miss_mem.1 hk
    have := hl k this.1 this.2
    simp; omega
  have h2 : (miss n x).head? = some i := by
    rw [miss, List.head?_filter, List.find?_range_eq_some]
    exact ⟨by simp [hb], by simpa using hi, fun j hj => by simp [hf j hj]⟩
  unfold nx
  rw [h1]
  cases hm : miss n x with
  | nil => rw [hm] at h2; cases h2
  | cons a t => rw [hm] at h2; simp at h2; simp [h2]
theorem rnext_y (E : Env) (q : Nat) (z : Snd) (ok : z.Ok) (bv : Value) (la : Option Addr) (lc : Nat) (hL : Sl E [] 1 (.slice la z.n lc) z.n (bls z.n z.x)) (told : Bool) (hst : z.st = 0) : Does Try.prog 41 #[.pointer (some ⟨q, 0, none⟩), .bool told] E ([own q [bv, .slice la z.n lc, .int .i64 z.pos, .bool z.gone] 142]) fun r H' => r = .int .i64 z.nxt ∧ H' = [own q [bv, .slice la z.n lc, .int .i64 (if told then z.nxt + 1 else z.pos : Nat), .bool z.gone] 142] := by
  have hn := ok.n
  have hmn := Snd.miss_ne ok hst
  refine Does.go _ _ Try.func41 rfl Try.ntmps41 rfl rfl ?_
  refine Body.seq ?_
  refine Body.region ?_
  refine Ops.u (Dtu.asg (lk rfl)) rfl ?_
  refine Ops.nil ?_
  refine Then.next ?_
  refine Body.seq ?_
  refine Body.seq ?_
  refine Body.region ?_
  refine Ops.u (Dtu.mv (lk rfl)) rfl ?_
  refine Ops.s (Stp.callOwn [0] rfl rfl Try.call54 (lks rfl) (fun E' le hat => rstate_b E' _ _ (by first | assumption | omega) _ _ _ (by first | exact Sl.mono (by assumption) le | exact Sl.hatI hat 0 rfl | exact Sl.hatI hat 1 rfl | exact Sl.hatI hat 2 rfl | exact Sl.hatI hat 3 rfl | exact Sl.hatI hat 4 rfl | exact Sl.hatI hat 5 rfl | exact Sl.hatI hat 6 rfl | exact Sl.hatI hat 7 rfl | exact Sl.hatI hat 8 rfl | exact Sl.hatI hat 9 rfl | exact Sl.hatI hat 10 rfl | exact Sl.hatI hat 11 rfl | exact Sl.hatI hat 12 rfl | exact Sl.hatI hat 13 rfl | exact Sl.hatI hat 14 rfl | exact Sl.hatI hat 15 rfl | exact Sl.hatW hat 0 rfl | exact Sl.hatW hat 1 rfl | exact Sl.hatW hat 2 rfl | exact Sl.hatW hat 3 rfl | exact Sl.hatW hat 4 rfl | exact Sl.hatW hat 5 rfl | exact Sl.hatW hat 6 rfl | exact Sl.hatW hat 7 rfl | exact Sl.hatW hat 8 rfl | exact Sl.hatW hat 9 rfl)) ?_) rfl
  rintro _ _ ⟨rfl, rfl⟩
  refine Ops.u (Dtu.neq (lk rfl) (lk rfl)) rfl ?_
  refine Ops.nil ?_
  refine Then.next ?_
  refine Body.condP (lk rfl) (fun hy => absurd hy (by first | omega | assumption | decide)) (fun _ => ?_)
  refine Body.skip ?_
  refine Then.next ?_
  refine Body.seq ?_
  refine Body.seq ?_
  refine Body.region ?_
  refine Ops.u (Dtu.asg (lk rfl)) rfl ?_
  refine Ops.nil ?_
  refine Then.next ?_
  refine Body.block ?_
  refine Body.loopH (γ := Nat) rfl (fun k => [(5, .int .i64 k)]) (fun k => []) (fun k => k ≤ 2 * z.n ∧ (∀ j, j < k → j < z.n → z.x.testBit j = false → j < z.pos) ∧ (∀ j, z.n + j < k → z.x.testBit j = true)) (fun k => 2 * z.n - k) (0) (⟨by omega, fun j hj => by omega, fun j hj => by omega⟩) ⟨rfl, trivial⟩ rfl ?_
  rintro k u0 ⟨hk, hlow, hup⟩
  have hn0 : 0 < z.n := by have := miss_le z.n z.x; omega
  have hw : IntKind.i64.wrap (2 * (z.n : Int)) = ((2 * z.n : Nat) : Int) := by rw [w64 (by omega) (by omega)]; omega
  by_cases hlt : k < 2 * z.n
  · have hm : (k : Int).tmod (z.n : Int) = ((k % z.n : Nat) : Int) := remN k z.n
    have hi : k % z.n < z.n := Nat.mod_lt _ hn0
    have hb := bl_getv (x := z.x) hi
    generalize hI : k % z.n = i at *
    have hki : (k < z.n ∧ i = k) ∨ (z.n ≤ k ∧ i = k - z.n) := by
      rcases Nat.lt_or_ge k z.n with h | h
      · exact .inl ⟨h, by rw [← hI, Nat.mod_eq_of_lt h]⟩
      · exact .inr ⟨h, by rw [← hI, Nat.mod_eq_sub_mod h, Nat.mod_eq_of_lt (by omega)]⟩
    have hnxt : z.nxt = nx (miss z.n z.x) z.pos := rfl
    cases hbi : z.x.testBit i <;> rw [hbi] at hb
    · rcases hki with ⟨h1, h2⟩ | ⟨h1, h2⟩
      · subst h2
        by_cases hp : z.pos ≤ i
        · rw [hnxt, nx_first hi hbi hp fun j hj hbj => hlow j hj (by omega) hbj]
          cases told
          · refine Body.seq ?_
            refine Body.seq ?_
            refine Body.region ?_
            refine Ops.u (Dtu.mv (lk rfl)) rfl ?_
            refine Ops.u (Dtu.mv (lk rfl)) rfl ?_
            refine Ops.u (Dtu.nilck (lk rfl)) rfl ?_
            refine Ops.u (Dtu.fld fa142_1 (lk rfl)) rfl ?_
            refine Ops.d (Det.ld Try.isAgg94 (lk rfl) (Rd.ow 0 rfl rfl)) rfl ?_
            refine Ops.u (Dtu.lenS Try.underlying94 (Sl.up hL) (lk rfl)) rfl ?_
            refine Ops.u (Dtu.mul (lk rfl) (lk rfl) (by with_reducible assumption)) rfl ?_
            refine Ops.u (Dtu.lss (lk rfl) (lk rfl)) rfl ?_
            refine Ops.nil ?_
            refine Then.next ?_
            refine Body.condP (lk rfl) (fun _ => ?_) (fun hn => absurd (by first | omega | assumption | decide) hn)
            refine Body.skip ?_
            refine Then.next ?_
            refine Body.seq ?_
            refine Body.block ?_
            refine Body.seq ?_
            refine Body.region ?_
            refine Ops.u (Dtu.mv (lk rfl)) rfl ?_
            refine Ops.u (Dtu.mv (lk rfl)) rfl ?_
            refine Ops.u (Dtu.nilck (lk rfl)) rfl ?_
            refine Ops.u (Dtu.fld fa142_1 (lk rfl)) rfl ?_
            refine Ops.d (Det.ld Try.isAgg94 (lk rfl) (Rd.ow 0 rfl rfl)) rfl ?_
            refine Ops.u (Dtu.lenS Try.underlying94 (Sl.up hL) (lk rfl)) rfl ?_
            refine Ops.u (Dtu.rem (lk rfl) (lk rfl) (by first | decide | omega) (by with_reducible assumption)) rfl ?_
            refine Ops.u (Dtu.asg (lk rfl)) rfl ?_
            refine Ops.nil ?_
            refine Then.next ?_
            refine Body.seq ?_
            refine Body.region ?_
            refine Ops.u (Dtu.mv (lk rfl)) rfl ?_
            refine Ops.u (Dtu.nilck (lk rfl)) rfl ?_
            refine Ops.u (Dtu.fld fa142_1 (lk rfl)) rfl ?_
            refine Ops.d (Det.ld Try.isAgg94 (lk rfl) (Rd.ow 0 rfl rfl)) rfl ?_
            refine Ops.u (Dtu.mv (lk rfl)) rfl ?_
            refine Ops.u (Dtu.ix (i := (i)) Try.underlying94 Try.sizeOf4 (Sl.up hL) (lk rfl) (lk rfl) (by omega) (by omega)) rfl ?_
            refine Ops.d (Det.ld Try.isAgg4 (lk rfl) (Rd.sl (Sl.up hL) (by with_reducible assumption))) rfl ?_
            refine Ops.u (Dtu.not (lk rfl)) rfl ?_
            refine Ops.u (Dtu.mv (lk rfl)) rfl ?_
            refine Ops.gu rfl rfl rfl (Dtu.mv (lk rfl)) rfl ?_
            refine Ops.gu rfl rfl rfl (Dtu.mv (lk rfl)) rfl ?_
            refine Ops.gu rfl rfl rfl (Dtu.nilck (lk rfl)) rfl ?_
            refine Ops.gu rfl rfl rfl (Dtu.fld fa142_1 (lk rfl)) rfl ?_
            refine Ops.gd rfl rfl rfl (Det.ld Try.isAgg94 (lk rfl) (Rd.ow 0 rfl rfl)) rfl ?_
            refine Ops.gu rfl rfl rfl (Dtu.lenS Try.underlying94 (Sl.up hL) (lk rfl)) rfl ?_
            refine Ops.gu rfl rfl rfl (Dtu.geq (lk rfl) (lk rfl)) rfl ?_
            refine Ops.gu rfl rfl rfl (Dtu.mv (lk rfl)) rfl ?_
            refine Ops.decP 43 rfl (fun hy => absurd hy (by first | omega | assumption | decide)) (fun _ => ?_)
            refine Ops.gu rfl rfl rfl (Dtu.mv (lk rfl)) rfl ?_
            refine Ops.gu rfl rfl rfl (Dtu.mv (lk rfl)) rfl ?_
            refine Ops.gu rfl rfl rfl (Dtu.nilck (lk rfl)) rfl ?_
            refine Ops.gu rfl rfl rfl (Dtu.fld fa142_2 (lk rfl)) rfl ?_
            refine Ops.gd rfl rfl rfl (Det.ld Try.isAgg3 (lk rfl) (Rd.ow 0 rfl rfl)) rfl ?_
            refine Ops.gu rfl rfl rfl (Dtu.geq (lk rfl) (lk rfl)) rfl ?_
            refine Ops.gu rfl rfl rfl (Dtu.pickF (lk rfl) (lk rfl)) rfl ?_
            refine Ops.u (Dtu.pickT (lk rfl) (lk rfl)) rfl ?_
            refine Ops.nil ?_
            refine Then.next ?_
            refine Body.condP (lk rfl) (fun _ => ?_) (fun hn => absurd (by first | omega | assumption | decide) hn)
            refine Body.seq ?_
            refine Body.seq ?_
            refine Body.region ?_
            refine Ops.u (Dtu.mv (lk rfl)) rfl ?_
            refine Ops.nil ?_
            refine Then.next ?_
            refine Body.condF (lk rfl) ?_
            refine Body.skip ?_
            refine Then.next ?_
            refine Body.seq ?_
            refine Body.region ?_
            refine Ops.u (Dtu.mv (lk rfl)) rfl ?_
            refine Ops.u (Dtu.asg (lk rfl)) rfl ?_
            refine Ops.nil ?_
            refine Then.next ?_
            refine Body.ret ?_
            refine Blk.ret ?_
            refine Then.ret ?_
            refine Round.ret ?_
            refine Blk.ret ?_
            refine Then.ret ?_
            exact ⟨.inr rfl, _, pk [0] rfl, rfl, rfl⟩
          · refine Body.seq ?_
            refine Body.seq ?_
            refine Body.region ?_
            refine Ops.u (Dtu.mv (lk rfl)) rfl ?_
            refine Ops.u (Dtu.mv (lk rfl)) rfl ?_
            refine Ops.u (Dtu.nilck (lk rfl)) rfl ?_
            refine Ops.u (Dtu.fld fa142_1 (lk rfl)) rfl ?_
            refine Ops.d (Det.ld Try.isAgg94 (lk rfl) (Rd.ow 0 rfl rfl)) rfl ?_
            refine Ops.u (Dtu.lenS Try.underlying94 (Sl.up hL) (lk rfl)) rfl ?_
            refine Ops.u (Dtu.mul (lk rfl) (lk rfl) (by with_reducible assumption)) rfl ?_
            refine Ops.u (Dtu.lss (lk rfl) (lk rfl)) rfl ?_
            refine Ops.nil ?_
            refine Then.next ?_
            refine Body.condP (lk rfl) (fun _ => ?_) (fun hn => absurd (by first | omega | assumption | decide) hn)
            refine Body.skip ?_
            refine Then.next ?_
            refine Body.seq ?_
            refine Body.block ?_
            refine Body.seq ?_
            refine Body.region ?_
            refine Ops.u (Dtu.mv (lk rfl)) rfl ?_
            refine Ops.u (Dtu.mv (lk rfl)) rfl ?_
            refine Ops.u (Dtu.nilck (lk rfl)) rfl ?_
            refine Ops.u (Dtu.fld fa142_1 (lk rfl)) rfl ?_
            refine Ops.d (Det.ld Try.isAgg94 (lk rfl) (Rd.ow 0 rfl rfl)) rfl ?_
            refine Ops.u (Dtu.lenS Try.underlying94 (Sl.up hL) (lk rfl)) rfl ?_
            refine Ops.u (Dtu.rem (lk rfl) (lk rfl) (by first | decide | omega) (by with_reducible assumption)) rfl ?_
            refine Ops.u (Dtu.asg (lk rfl)) rfl ?_
            refine Ops.nil ?_
            refine Then.next ?_
            refine Body.seq ?_
            refine Body.region ?_
            refine Ops.u (Dtu.mv (lk rfl)) rfl ?_
            refine Ops.u (Dtu.nilck (lk rfl)) rfl ?_
            refine Ops.u (Dtu.fld fa142_1 (lk rfl)) rfl ?_
            refine Ops.d (Det.ld Try.isAgg94 (lk rfl) (Rd.ow 0 rfl rfl)) rfl ?_
            refine Ops.u (Dtu.mv (lk rfl)) rfl ?_
            refine Ops.u (Dtu.ix (i := (i)) Try.underlying94 Try.sizeOf4 (Sl.up hL) (lk rfl) (lk rfl) (by omega) (by omega)) rfl ?_
            refine Ops.d (Det.ld Try.isAgg4 (lk rfl) (Rd.sl (Sl.up hL) (by with_reducible assumption))) rfl ?_
            refine Ops.u (Dtu.not (lk rfl)) rfl ?_
            refine Ops.u (Dtu.mv (lk rfl)) rfl ?_
            refine Ops.gu rfl rfl rfl (Dtu.mv (lk rfl)) rfl ?_
            refine Ops.gu rfl rfl rfl (Dtu.mv (lk rfl)) rfl ?_
            refine Ops.gu rfl rfl rfl (Dtu.nilck (lk rfl)) rfl ?_
            refine Ops.gu rfl rfl rfl (Dtu.fld fa142_1 (lk rfl)) rfl ?_
            refine Ops.gd rfl rfl rfl (Det.ld Try.isAgg94 (lk rfl) (Rd.ow 0 rfl rfl)) rfl ?_
            refine Ops.gu rfl rfl rfl (Dtu.lenS Try.underlying94 (Sl.up hL) (lk rfl)) rfl ?_
            refine Ops.gu rfl rfl rfl (Dtu.geq (lk rfl) (lk rfl)) rfl ?_
            refine Ops.gu rfl rfl rfl (Dtu.mv (lk rfl)) rfl ?_
            refine Ops.decP 43 rfl (fun hy => absurd hy (by first | omega | assumption | decide)) (fun _ => ?_)
            refine Ops.gu rfl rfl rfl (Dtu.mv (lk rfl)) rfl ?_
            refine Ops.gu rfl rfl rfl (Dtu.mv (lk rfl)) rfl ?_
            refine Ops.gu rfl rfl rfl (Dtu.nilck (lk rfl)) rfl ?_
            refine Ops.gu rfl rfl rfl (Dtu.fld fa142_2 (lk rfl)) rfl ?_
            refine Ops.gd rfl rfl rfl (Det.ld Try.isAgg3 (lk rfl) (Rd.ow 0 rfl rfl)) rfl ?_
            refine Ops.gu rfl rfl rfl (Dtu.geq (lk rfl) (lk rfl)) rfl ?_
            refine Ops.gu rfl rfl rfl (Dtu.pickF (lk rfl) (lk rfl)) rfl ?_
            refine Ops.u (Dtu.pickT (lk rfl) (lk rfl)) rfl ?_
            refine Ops.nil ?_
            refine Then.next ?_
            refine Body.condP (lk rfl) (fun _ => ?_) (fun hn => absurd (by first | omega | assumption | decide) hn)
            refine Body.seq ?_
            refine Body.seq ?_
            refine Body.region ?_
            refine Ops.u (Dtu.mv (lk rfl)) rfl ?_
            refine Ops.nil ?_
            refine Then.next ?_
            refine Body.condT (lk rfl) ?_
            refine Body.region ?_
            refine Ops.u (Dtu.mv (lk rfl)) rfl ?_
            refine Ops.u (Dtu.mv (lk rfl)) rfl ?_
            refine Ops.u (Dtu.add (lk rfl) (lk rfl) (w64 (by omega) (by omega))) rfl ?_
            refine Ops.u (Dtu.nilck (lk rfl)) rfl ?_
            refine Ops.u (Dtu.fld fa142_2 (lk rfl)) rfl ?_
            refine Ops.e (Stp.store 0 Try.sizeOf3 (lk rfl) (lk rfl) rfl rfl rfl rfl rfl rfl rfl ?_)
            refine Ops.nil ?_
            refine Then.next ?_
            refine Body.seq ?_
            refine Body.region ?_
            refine Ops.u (Dtu.mv (lk rfl)) rfl ?_
            refine Ops.u (Dtu.asg (lk rfl)) rfl ?_
            refine Ops.nil ?_
            refine Then.next ?_
            refine Body.ret ?_
            refine Blk.ret ?_
            refine Then.ret ?_
            refine Round.ret ?_
            refine Blk.ret ?_
            refine Then.ret ?_
            exact ⟨.inr rfl, _, pk [0] rfl, rfl, rfl⟩
        · have hlow2 : ∀ j, j < i + 1 → j < z.n → z.x.testBit j = false → j < z.pos := fun j hj hjn hbj => by
            rcases Nat.lt_succ_iff_lt_or_eq.1 hj with h | rfl
            · exact hlow j h hjn hbj
            · omega
          refine Body.seq ?_
          refine Body.seq ?_
          refine Body.region ?_
          refine Ops.u (Dtu.mv (lk rfl)) rfl ?_
          refine Ops.u (Dtu.mv (lk rfl)) rfl ?_
          refine Ops.u (Dtu.nilck (lk rfl)) rfl ?_
          refine Ops.u (Dtu.fld fa142_1 (lk rfl)) rfl ?_
          refine Ops.d (Det.ld Try.isAgg94 (lk rfl) (Rd.ow 0 rfl rfl)) rfl ?_
          refine Ops.u (Dtu.lenS Try.underlying94 (Sl.up hL) (lk rfl)) rfl ?_
          refine Ops.u (Dtu.mul (lk rfl) (lk rfl) (by with_reducible assumption)) rfl ?_
          refine Ops.u (Dtu.lss (lk rfl) (lk rfl)) rfl ?_
          refine Ops.nil ?_
          refine Then.next ?_
          refine Body.condP (lk rfl) (fun _ => ?_) (fun hn => absurd (by first | omega | assumption | decide) hn)
          refine Body.skip ?_
          refine Then.next ?_
          refine Body.seq ?_
          refine Body.block ?_
          refine Body.seq ?_
          refine Body.region ?_
          refine Ops.u (Dtu.mv (lk rfl)) rfl ?_
          refine Ops.u (Dtu.mv (lk rfl)) rfl ?_
          refine Ops.u (Dtu.nilck (lk rfl)) rfl ?_
          refine Ops.u (Dtu.fld fa142_1 (lk rfl)) rfl ?_
          refine Ops.d (Det.ld Try.isAgg94 (lk rfl) (Rd.ow 0 rfl rfl)) rfl ?_
          refine Ops.u (Dtu.lenS Try.underlying94 (Sl.up hL) (lk rfl)) rfl ?_
          refine Ops.u (Dtu.rem (lk rfl) (lk rfl) (by first | decide | omega) (by with_reducible assumption)) rfl ?_
          refine Ops.u (Dtu.asg (lk rfl)) rfl ?_
          refine Ops.nil ?_
          refine Then.next ?_
          refine Body.seq ?_
          refine Body.region ?_
          refine Ops.u (Dtu.mv (lk rfl)) rfl ?_
          refine Ops.u (Dtu.nilck (lk rfl)) rfl ?_
          refine Ops.u (Dtu.fld fa142_1 (lk rfl)) rfl ?_
          refine Ops.d (Det.ld Try.isAgg94 (lk rfl) (Rd.ow 0 rfl rfl)) rfl ?_
          refine Ops.u (Dtu.mv (lk rfl)) rfl ?_
          refine Ops.u (Dtu.ix (i := (i)) Try.underlying94 Try.sizeOf4 (Sl.up hL) (lk rfl) (lk rfl) (by omega) (by omega)) rfl ?_
          refine Ops.d (Det.ld Try.isAgg4 (lk rfl) (Rd.sl (Sl.up hL) (by with_reducible assumption))) rfl ?_
          refine Ops.u (Dtu.not (lk rfl)) rfl ?_
          refine Ops.u (Dtu.mv (lk rfl)) rfl ?_
          refine Ops.gu rfl rfl rfl (Dtu.mv (lk rfl)) rfl ?_
          refine Ops.gu rfl rfl rfl (Dtu.mv (lk rfl)) rfl ?_
          refine Ops.gu rfl rfl rfl (Dtu.nilck (lk rfl)) rfl ?_
          refine Ops.gu rfl rfl rfl (Dtu.fld fa142_1 (lk rfl)) rfl ?_
          refine Ops.gd rfl rfl rfl (Det.ld Try.isAgg94 (lk rfl) (Rd.ow 0 rfl rfl)) rfl ?_
          refine Ops.gu rfl rfl rfl (Dtu.lenS Try.underlying94 (Sl.up hL) (lk rfl)) rfl ?_
          refine Ops.gu rfl rfl rfl (Dtu.geq (lk rfl) (lk rfl)) rfl ?_
          refine Ops.gu rfl rfl rfl (Dtu.mv (lk rfl)) rfl ?_
          refine Ops.decP 43 rfl (fun hy => absurd hy (by first | omega | assumption | decide)) (fun _ => ?_)
          refine Ops.gu rfl rfl rfl (Dtu.mv (lk rfl)) rfl ?_
          refine Ops.gu rfl rfl rfl (Dtu.mv (lk rfl)) rfl ?_
          refine Ops.gu rfl rfl rfl (Dtu.nilck (lk rfl)) rfl ?_
          refine Ops.gu rfl rfl rfl (Dtu.fld fa142_2 (lk rfl)) rfl ?_
          refine Ops.gd rfl rfl rfl (Det.ld Try.isAgg3 (lk rfl) (Rd.ow 0 rfl rfl)) rfl ?_
          refine Ops.gu rfl rfl rfl (Dtu.geq (lk rfl) (lk rfl)) rfl ?_
          refine Ops.gu rfl rfl rfl (Dtu.pickF (lk rfl) (lk rfl)) rfl ?_
          refine Ops.u (Dtu.pickT (lk rfl) (lk rfl)) rfl ?_
          refine Ops.nil ?_
          refine Then.next ?_
          refine Body.condP (lk rfl) (fun hy => absurd hy (by first | omega | assumption | decide)) (fun _ => ?_)
          refine Body.skip ?_
          refine Blk.norm ?_
          refine Then.next ?_
          refine Body.region ?_
          refine Ops.u (Dtu.mv (lk rfl)) rfl ?_
          refine Ops.u (Dtu.add (lk rfl) (lk rfl) (w64 (by omega) (by omega))) rfl ?_
          refine Ops.u (Dtu.asg (lk rfl)) rfl ?_
          refine Ops.nil ?_
          refine Round.goK [0] (i + 1) rfl rfl rfl ⟨rfl, trivial⟩ rfl rfl ⟨by omega, hlow2, fun j hj => by omega⟩ (by omega)
      · rw [hnxt, nx_wrap hi hbi (fun j hj hbj => hlow j (by omega) hj hbj) fun j hj => hup j (by omega)]
        cases told
        · refine Body.seq ?_
          refine Body.seq ?_
          refine Body.region ?_
          refine Ops.u (Dtu.mv (lk rfl)) rfl ?_
          refine Ops.u (Dtu.mv (lk rfl)) rfl ?_
          refine Ops.u (Dtu.nilck (lk rfl)) rfl ?_
          refine Ops.u (Dtu.fld fa142_1 (lk rfl)) rfl ?_
          refine Ops.d (Det.ld Try.isAgg94 (lk rfl) (Rd.ow 0 rfl rfl)) rfl ?_
          refine Ops.u (Dtu.lenS Try.underlying94 (Sl.up hL) (lk rfl)) rfl ?_
          refine Ops.u (Dtu.mul (lk rfl) (lk rfl) (by with_reducible assumption)) rfl ?_
          refine Ops.u (Dtu.lss (lk rfl) (lk rfl)) rfl ?_
          refine Ops.nil ?_
          refine Then.next ?_
          refine Body.condP (lk rfl) (fun _ => ?_) (fun hn => absurd (by first | omega | assumption | decide) hn)
          refine Body.skip ?_
          refine Then.next ?_
          refine Body.seq ?_
          refine Body.block ?_
          refine Body.seq ?_
          refine Body.region ?_
          refine Ops.u (Dtu.mv (lk rfl)) rfl ?_
          refine Ops.u (Dtu.mv (lk rfl)) rfl ?_
          refine Ops.u (Dtu.nilck (lk rfl)) rfl ?_
          refine Ops.u (Dtu.fld fa142_1 (lk rfl)) rfl ?_
          refine Ops.d (Det.ld Try.isAgg94 (lk rfl) (Rd.ow 0 rfl rfl)) rfl ?_
          refine Ops.u (Dtu.lenS Try.underlying94 (Sl.up hL) (lk rfl)) rfl ?_
          refine Ops.u (Dtu.rem (lk rfl) (lk rfl) (by first | decide | omega) (by with_reducible assumption)) rfl ?_
          refine Ops.u (Dtu.asg (lk rfl)) rfl ?_
          refine Ops.nil ?_
          refine Then.next ?_
          refine Body.seq ?_
          refine Body.region ?_
          refine Ops.u (Dtu.mv (lk rfl)) rfl ?_
          refine Ops.u (Dtu.nilck (lk rfl)) rfl ?_
          refine Ops.u (Dtu.fld fa142_1 (lk rfl)) rfl ?_
          refine Ops.d (Det.ld Try.isAgg94 (lk rfl) (Rd.ow 0 rfl rfl)) rfl ?_
          refine Ops.u (Dtu.mv (lk rfl)) rfl ?_
          refine Ops.u (Dtu.ix (i := (i)) Try.underlying94 Try.sizeOf4 (Sl.up hL) (lk rfl) (lk rfl) (by omega) (by omega)) rfl ?_
          refine Ops.d (Det.ld Try.isAgg4 (lk rfl) (Rd.sl (Sl.up hL) (by with_reducible assumption))) rfl ?_
          refine Ops.u (Dtu.not (lk rfl)) rfl ?_
          refine Ops.u (Dtu.mv (lk rfl)) rfl ?_
          refine Ops.gu rfl rfl rfl (Dtu.mv (lk rfl)) rfl ?_
          refine Ops.gu rfl rfl rfl (Dtu.mv (lk rfl)) rfl ?_
          refine Ops.gu rfl rfl rfl (Dtu.nilck (lk rfl)) rfl ?_
          refine Ops.gu rfl rfl rfl (Dtu.fld fa142_1 (lk rfl)) rfl ?_
          refine Ops.gd rfl rfl rfl (Det.ld Try.isAgg94 (lk rfl) (Rd.ow 0 rfl rfl)) rfl ?_
          refine Ops.gu rfl rfl rfl (Dtu.lenS Try.underlying94 (Sl.up hL) (lk rfl)) rfl ?_
          refine Ops.gu rfl rfl rfl (Dtu.geq (lk rfl) (lk rfl)) rfl ?_
          refine Ops.gu rfl rfl rfl (Dtu.mv (lk rfl)) rfl ?_
          refine Ops.decP 43 rfl (fun _ => ?_) (fun hn => absurd (by first | omega | assumption | decide) hn)
          refine Ops.gn rfl rfl rfl rfl rfl ?_
          refine Ops.gn rfl rfl rfl rfl rfl ?_
          refine Ops.gn rfl rfl rfl rfl rfl ?_
          refine Ops.gn rfl rfl rfl rfl rfl ?_
          refine Ops.gn rfl rfl rfl rfl rfl ?_
          refine Ops.gn rfl rfl rfl rfl rfl ?_
          refine Ops.gu rfl rfl rfl (Dtu.pickT (lk rfl) (lk rfl)) rfl ?_
          refine Ops.u (Dtu.pickT (lk rfl) (lk rfl)) rfl ?_
          refine Ops.nil ?_
          refine Then.next ?_
          refine Body.condT (lk rfl) ?_
          refine Body.seq ?_
          refine Body.seq ?_
          refine Body.region ?_
          refine Ops.u (Dtu.mv (lk rfl)) rfl ?_
          refine Ops.nil ?_
          refine Then.next ?_
          refine Body.condF (lk rfl) ?_
          refine Body.skip ?_
          refine Then.next ?_
          refine Body.seq ?_
          refine Body.region ?_
          refine Ops.u (Dtu.mv (lk rfl)) rfl ?_
          refine Ops.u (Dtu.asg (lk rfl)) rfl ?_
          refine Ops.nil ?_
          refine Then.next ?_
          refine Body.ret ?_
          refine Blk.ret ?_
          refine Then.ret ?_
          refine Round.ret ?_
          refine Blk.ret ?_
          refine Then.ret ?_
          exact ⟨.inr rfl, _, pk [0] rfl, rfl, rfl⟩
        · refine Body.seq ?_
          refine Body.seq ?_
          refine Body.region ?_
          refine Ops.u (Dtu.mv (lk rfl)) rfl ?_
          refine Ops.u (Dtu.mv (lk rfl)) rfl ?_
          refine Ops.u (Dtu.nilck (lk rfl)) rfl ?_
          refine Ops.u (Dtu.fld fa142_1 (lk rfl)) rfl ?_
          refine Ops.d (Det.ld Try.isAgg94 (lk rfl) (Rd.ow 0 rfl rfl)) rfl ?_
          refine Ops.u (Dtu.lenS Try.underlying94 (Sl.up hL) (lk rfl)) rfl ?_
          refine Ops.u (Dtu.mul (lk rfl) (lk rfl) (by with_reducible assumption)) rfl ?_
          refine Ops.u (Dtu.lss (lk rfl) (lk rfl)) rfl ?_
          refine Ops.nil ?_
          refine Then.next ?_
          refine Body.condP (lk rfl) (fun _ => ?_) (fun hn => absurd (by first | omega | assumption | decide) hn)
          refine Body.skip ?_
          refine Then.next ?_
          refine Body.seq ?_
          refine Body.block ?_
          refine Body.seq ?_
          refine Body.region ?_
          refine Ops.u (Dtu.mv (lk rfl)) rfl ?_
          refine Ops.u (Dtu.mv (lk rfl)) rfl ?_
          refine Ops.u (Dtu.nilck (lk rfl)) rfl ?_
          refine Ops.u (Dtu.fld fa142_1 (lk rfl)) rfl ?_
          refine Ops.d (Det.ld Try.isAgg94 (lk rfl) (Rd.ow 0 rfl rfl)) rfl ?_
          refine Ops.u (Dtu.lenS Try.underlying94 (Sl.up hL) (lk rfl)) rfl ?_
          refine Ops.u (Dtu.rem (lk rfl) (lk rfl) (by first | decide | omega) (by with_reducible assumption)) rfl ?_
          refine Ops.u (Dtu.asg (lk rfl)) rfl ?_
          refine Ops.nil ?_
          refine Then.next ?_
          refine Body.seq ?_
          refine Body.region ?_
          refine Ops.u (Dtu.mv (lk rfl)) rfl ?_
          refine Ops.u (Dtu.nilck (lk rfl)) rfl ?_
          refine Ops.u (Dtu.fld fa142_1 (lk rfl)) rfl ?_
          refine Ops.d (Det.ld Try.isAgg94 (lk rfl) (Rd.ow 0 rfl rfl)) rfl ?_
          refine Ops.u (Dtu.mv (lk rfl)) rfl ?_
          refine Ops.u (Dtu.ix (i := (i)) Try.underlying94 Try.sizeOf4 (Sl.up hL) (lk rfl) (lk rfl) (by omega) (by omega)) rfl ?_
          refine Ops.d (Det.ld Try.isAgg4 (lk rfl) (Rd.sl (Sl.up hL) (by with_reducible assumption))) rfl ?_
          refine Ops.u (Dtu.not (lk rfl)) rfl ?_
          refine Ops.u (Dtu.mv (lk rfl)) rfl ?_
          refine Ops.gu rfl rfl rfl (Dtu.mv (lk rfl)) rfl ?_
          refine Ops.gu rfl rfl rfl (Dtu.mv (lk rfl)) rfl ?_
          refine Ops.gu rfl rfl rfl (Dtu.nilck (lk rfl)) rfl ?_
          refine Ops.gu rfl rfl rfl (Dtu.fld fa142_1 (lk rfl)) rfl ?_
          refine Ops.gd rfl rfl rfl (Det.ld Try.isAgg94 (lk rfl) (Rd.ow 0 rfl rfl)) rfl ?_
          refine Ops.gu rfl rfl rfl (Dtu.lenS Try.underlying94 (Sl.up hL) (lk rfl)) rfl ?_
          refine Ops.gu rfl rfl rfl (Dtu.geq (lk rfl) (lk rfl)) rfl ?_
          refine Ops.gu rfl rfl rfl (Dtu.mv (lk rfl)) rfl ?_
          refine Ops.decP 43 rfl (fun _ => ?_) (fun hn => absurd (by first | omega | assumption | decide) hn)
          refine Ops.gn rfl rfl rfl rfl rfl ?_
          refine Ops.gn rfl rfl rfl rfl rfl ?_
          refine Ops.gn rfl rfl rfl rfl rfl ?_
          refine Ops.gn rfl rfl rfl rfl rfl ?_
          refine Ops.gn rfl rfl rfl rfl rfl ?_
          refine Ops.gn rfl rfl rfl rfl rfl ?_
          refine Ops.gu rfl rfl rfl (Dtu.pickT (lk rfl) (lk rfl)) rfl ?_
          refine Ops.u (Dtu.pickT (lk rfl) (lk rfl)) rfl ?_
          refine Ops.nil ?_
          refine Then.next ?_
          refine Body.condT (lk rfl) ?_
          refine Body.seq ?_
          refine Body.seq ?_
          refine Body.region ?_
          refine Ops.u (Dtu.mv (lk rfl)) rfl ?_
          refine Ops.nil ?_
          refine Then.next ?_
          refine Body.condT (lk rfl) ?_
          refine Body.region ?_
          refine Ops.u (Dtu.mv (lk rfl)) rfl ?_
          refine Ops.u (Dtu.mv (lk rfl)) rfl ?_
          refine Ops.u (Dtu.add (lk rfl) (lk rfl) (w64 (by omega) (by omega))) rfl ?_
          refine Ops.u (Dtu.nilck (lk rfl)) rfl ?_
          refine Ops.u (Dtu.fld fa142_2 (lk rfl)) rfl ?_
          refine Ops.e (Stp.store 0 Try.sizeOf3 (lk rfl) (lk rfl) rfl rfl rfl rfl rfl rfl rfl ?_)
          refine Ops.nil ?_
          refine Then.next ?_
          refine Body.seq ?_
          refine Body.region ?_
          refine Ops.u (Dtu.mv (lk rfl)) rfl ?_
          refine Ops.u (Dtu.asg (lk rfl)) rfl ?_
          refine Ops.nil ?_
          refine Then.next ?_
          refine Body.ret ?_
          refine Blk.ret ?_
          refine Then.ret ?_
          refine Round.ret ?_
          refine Blk.ret ?_
          refine Then.ret ?_
          exact ⟨.inr rfl, _, pk [0] rfl, rfl, rfl⟩
    · have hlow2 : ∀ j, j < k + 1 → j < z.n → z.x.testBit j = false → j < z.pos := fun j hj hjn hbj => by
        rcases Nat.lt_succ_iff_lt_or_eq.1 hj with h | rfl
        · exact hlow j h hjn hbj
        · have : i = j := by omega
          rw [this, hbj] at hbi; cases hbi
      have hup2 : ∀ j, z.n + j < k + 1 → z.x.testBit j = true := fun j hj => by
        rcases Nat.lt_succ_iff_lt_or_eq.1 hj with h | h
        · exact hup j h
        · have : i = j := by omega
          rw [← this]; exact hbi
      refine Body.seq ?_
      refine Body.seq ?_
      refine Body.region ?_
      refine Ops.u (Dtu.mv (lk rfl)) rfl ?_
      refine Ops.u (Dtu.mv (lk rfl)) rfl ?_
      refine Ops.u (Dtu.nilck (lk rfl)) rfl ?_
      refine Ops.u (Dtu.fld fa142_1 (lk rfl)) rfl ?_
      refine Ops.d (Det.ld Try.isAgg94 (lk rfl) (Rd.ow 0 rfl rfl)) rfl ?_
      refine Ops.u (Dtu.lenS Try.underlying94 (Sl.up hL) (lk rfl)) rfl ?_
      refine Ops.u (Dtu.mul (lk rfl) (lk rfl) (by with_reducible assumption)) rfl ?_
      refine Ops.u (Dtu.lss (lk rfl) (lk rfl)) rfl ?_
      refine Ops.nil ?_
      refine Then.next ?_
      refine Body.condP (lk rfl) (fun _ => ?_) (fun hn => absurd (by first | omega | assumption | decide) hn)
      refine Body.skip ?_
      refine Then.next ?_
      refine Body.seq ?_
      refine Body.block ?_
      refine Body.seq ?_
      refine Body.region ?_
      refine Ops.u (Dtu.mv (lk rfl)) rfl ?_
      refine Ops.u (Dtu.mv (lk rfl)) rfl ?_
      refine Ops.u (Dtu.nilck (lk rfl)) rfl ?_
      refine Ops.u (Dtu.fld fa142_1 (lk rfl)) rfl ?_
      refine Ops.d (Det.ld Try.isAgg94 (lk rfl) (Rd.ow 0 rfl rfl)) rfl ?_
      refine Ops.u (Dtu.lenS Try.underlying94 (Sl.up hL) (lk rfl)) rfl ?_
      refine Ops.u (Dtu.rem (lk rfl) (lk rfl) (by first | decide | omega) (by with_reducible assumption)) rfl ?_
      refine Ops.u (Dtu.asg (lk rfl)) rfl ?_
      refine Ops.nil ?_
      refine Then.next ?_
      refine Body.seq ?_
      refine Body.region ?_
      refine Ops.u (Dtu.mv (lk rfl)) rfl ?_
      refine Ops.u (Dtu.nilck (lk rfl)) rfl ?_
      refine Ops.u (Dtu.fld fa142_1 (lk rfl)) rfl ?_
      refine Ops.d (Det.ld Try.isAgg94 (lk rfl) (Rd.ow 0 rfl rfl)) rfl ?_
      refine Ops.u (Dtu.mv (lk rfl)) rfl ?_
      refine Ops.u (Dtu.ix (i := (i)) Try.underlying94 Try.sizeOf4 (Sl.up hL) (lk rfl) (lk rfl) (by omega) (by omega)) rfl ?_
      refine Ops.d (Det.ld Try.isAgg4 (lk rfl) (Rd.sl (Sl.up hL) (by with_reducible assumption))) rfl ?_
      refine Ops.u (Dtu.not (lk rfl)) rfl ?_
      refine Ops.u (Dtu.mv (lk rfl)) rfl ?_
      refine Ops.gn rfl rfl rfl rfl rfl ?_
      refine Ops.gn rfl rfl rfl rfl rfl ?_
      refine Ops.gn rfl rfl rfl rfl rfl ?_
      refine Ops.gn rfl rfl rfl rfl rfl ?_
      refine Ops.gn rfl rfl rfl rfl rfl ?_
      refine Ops.gn rfl rfl rfl rfl rfl ?_
      refine Ops.gn rfl rfl rfl rfl rfl ?_
      refine Ops.gn rfl rfl rfl rfl rfl ?_
      refine Ops.gn rfl rfl rfl rfl rfl ?_
      refine Ops.gn rfl rfl rfl rfl rfl ?_
      refine Ops.gn rfl rfl rfl rfl rfl ?_
      refine Ops.gn rfl rfl rfl rfl rfl ?_
      refine Ops.gn rfl rfl rfl rfl rfl ?_
      refine Ops.gn rfl rfl rfl rfl rfl ?_
      refine Ops.gn rfl rfl rfl rfl rfl ?_
      refine Ops.u (Dtu.pickF (lk rfl) (lk rfl)) rfl ?_
      refine Ops.nil ?_
      refine Then.next ?_
      refine Body.condF (lk rfl) ?_
      refine Body.skip ?_
      refine Blk.norm ?_
      refine Then.next ?_
      refine Body.region ?_
      refine Ops.u (Dtu.mv (lk rfl)) rfl ?_
      refine Ops.u (Dtu.add (lk rfl) (lk rfl) (w64 (by omega) (by omega))) rfl ?_
      refine Ops.u (Dtu.asg (lk rfl)) rfl ?_
      refine Ops.nil ?_
      refine Round.goK [0] (k + 1) rfl rfl rfl ⟨rfl, trivial⟩ rfl rfl ⟨by omega, hlow2, hup2⟩ (by omega)
  · exfalso
    obtain ⟨j, hj⟩ := List.exists_mem_of_length_pos hmn
    have hj := miss_mem.1 hj
    have := hup j (by omega)
    rw [hj.2] at this; cases this
theorem rnext_n (E : Env) (q : Nat) (z : Snd) (ok : z.Ok) (bv : Value) (la : Option Addr) (lc : Nat) (hL : Sl E [] 1 (.slice la z.n lc) z.n (bls z.n z.x)) (told : Bool) (hst : ¬ z.st = 0) : Does Try.prog 41 #[.pointer (some ⟨q, 0, none⟩), .bool told] E ([own q [bv, .slice la z.n lc, .int .i64 z.pos, .bool z.gone] 142]) fun r H' => r = .int .i64 (-1) ∧ H' = [own q [bv, .slice la z.n lc, .int .i64 z.pos, .bool z.gone] 142] := by
  refine Does.go _ _ Try.func41 rfl Try.ntmps41 rfl rfl ?_
  refine Body.seq ?_
  refine Body.region ?_
  refine Ops.u (Dtu.asg (lk rfl)) rfl ?_
  refine Ops.nil ?_
  refine Then.next ?_
  refine Body.seq ?_
  refine Body.seq ?_
  refine Body.region ?_
  refine Ops.u (Dtu.mv (lk rfl)) rfl ?_
  refine Ops.s (Stp.callOwn [0] rfl rfl Try.call54 (lks rfl) (fun E' le hat => rstate_b E' _ _ (by first | assumption | omega) _ _ _ (by first | exact Sl.mono (by assumption) le | exact Sl.hatI hat 0 rfl | exact Sl.hatI hat 1 rfl | exact Sl.hatI hat 2 rfl | exact Sl.hatI hat 3 rfl | exact Sl.hatI hat 4 rfl | exact Sl.hatI hat 5 rfl | exact Sl.hatI hat 6 rfl | exact Sl.hatI hat 7 rfl | exact Sl.hatI hat 8 rfl | exact Sl.hatI hat 9 rfl | exact Sl.hatI hat 10 rfl | exact Sl.hatI hat 11 rfl | exact Sl.hatI hat 12 rfl | exact Sl.hatI hat 13 rfl | exact Sl.hatI hat 14 rfl | exact Sl.hatI hat 15 rfl | exact Sl.hatW hat 0 rfl | exact Sl.hatW hat 1 rfl | exact Sl.hatW hat 2 rfl | exact Sl.hatW hat 3 rfl | exact Sl.hatW hat 4 rfl | exact Sl.hatW hat 5 rfl | exact Sl.hatW hat 6 rfl | exact Sl.hatW hat 7 rfl | exact Sl.hatW hat 8 rfl | exact Sl.hatW hat 9 rfl)) ?_) rfl
  rintro _ _ ⟨rfl, rfl⟩
  refine Ops.u (Dtu.neq (lk rfl) (lk rfl)) rfl ?_
  refine Ops.nil ?_
  refine Then.next ?_
  refine Body.condP (lk rfl) (fun _ => ?_) (fun hn => absurd (by first | omega | assumption | decide) hn)
  refine Body.seq ?_
  refine Body.region ?_
  refine Ops.u (Dtu.asg (lk rfl)) rfl ?_
  refine Ops.nil ?_
  refine Then.next ?_
  refine Body.ret ?_
  refine Then.ret ?_
  exact ⟨.inr rfl, _, pk [0] rfl, rfl, rfl⟩
theorem Sl.chunkR {E : Env} {v : Value} {bs : List Int} {i : Nat} (h : Sl E [] 1 v bs.length (bs.map (.int .u8))) (hi : i < (bs.length + 63) / 64) : Sl E [] 1 (subSl v 1 (64 * i) (64 * i + lenN bs.length i) (capOf v)) (lenN bs.length i) ((Go.Proofs.Ytpmapedhigjalaa.chunk bs i).map (.int .u8)) := by
  have hl := lenN_le hi
  have := Sl.sub' h (64 * i) (64 * i + lenN bs.length i) (by omega) (by omega) rfl
  rw [show 64 * i + lenN bs.length i - 64 * i = lenN bs.length i by omega, Nat.mul_one, Nat.mul_one] at this
  rw [Go.Proofs.Ytpmapedhigjalaa.chunk, List.map_take, List.map_drop]
  exact this
theorem rbytes_b (E : Env) (q : Nat) (z : Snd) (ok : z.Ok) (bv : Value) (hs : Sl E [] 1 bv z.bs.length (z.bs.map (.int .u8))) (la : Option Addr) (lc : Nat) (i : Nat) (hi : i < (z.bs.length + 63) / 64) : Does Try.prog 42 #[.pointer (some ⟨q, 0, none⟩), .int .i64 i] E ([own q [bv, .slice la z.n lc, .int .i64 z.pos, .bool z.gone] 142]) fun r H' => r = subSl bv 1 (64 * i) (64 * i + lenN z.bs.length i) (capOf bv) ∧ H' = [own q [bv, .slice la z.n lc, .int .i64 z.pos, .bool z.gone] 142] := by
  have hl := ok.len
  have hc := lenN_le hi
  refine Does.go _ _ Try.func42 rfl Try.ntmps42 rfl rfl ?_
  refine Body.seq ?_
  refine Body.region ?_
  refine Ops.u (Dtu.asg (lk rfl)) rfl ?_
  refine Ops.nil ?_
  refine Then.next ?_
  refine Body.seq ?_
  refine Body.drawE [0] mixed rfl ?_
  rintro E1' le1 ⟨hA1_0, -⟩
  have hs_1 := Sl.mono hs le1
  refine AE.u 0 rfl (by decide +kernel) (Dtu.mv (lk rfl)) rfl ?_
  refine AE.u 1 rfl (by decide +kernel) (Dtu.nilck (lk rfl)) rfl ?_
  refine AE.u 2 rfl (by decide +kernel) (Dtu.fld fa142_0 (lk rfl)) rfl ?_
  refine AE.d 3 rfl (by decide +kernel) (Det.ld Try.isAgg73 (lk rfl) (Rd.env (own_at hA1_0 rfl))) rfl ?_
  refine AE.u 4 rfl (by decide +kernel) (Dtu.mv (lk rfl)) rfl ?_
  refine AE.u 5 rfl (by decide +kernel) (Dtu.mul (lk rfl) (lk rfl) (w64 (by omega) (by omega))) rfl ?_
  refine AE.u 6 rfl (by decide +kernel) (Dtu.mv (lk rfl)) rfl ?_
  refine AE.u 7 rfl (by decide +kernel) (Dtu.mul (lk rfl) (lk rfl) (w64 (by omega) (by omega))) rfl ?_
  refine AE.u 8 rfl (by decide +kernel) (Dtu.mv (lk rfl)) rfl ?_
  refine AE.u 9 rfl (by decide +kernel) (Dtu.nilck (lk rfl)) rfl ?_
  refine AE.u 10 rfl (by decide +kernel) (Dtu.fld fa142_0 (lk rfl)) rfl ?_
  refine AE.d 11 rfl (by decide +kernel) (Det.ld Try.isAgg73 (lk rfl) (Rd.env (own_at hA1_0 rfl))) rfl ?_
  refine AE.u 12 rfl (by decide +kernel) (Dtu.lenS Try.underlying73 (Sl.up hs_1) (lk rfl)) rfl ?_
  refine AE.u 13 rfl (by decide +kernel) (Dtu.mv (lk rfl)) rfl ?_
  refine AE.more [14] (by decide +kernel) rfl ⟨?_, trivial⟩
  refine AEI.s rfl (Stp.call rfl Try.call64 (lks rfl) (fun E' le hat => rlengthN_ok E' _ _ (by first | assumption | omega) (by first | assumption | omega)) ?_) rfl
  rintro _ _ ⟨rfl, rfl⟩
  refine AE.u 15 rfl (by decide +kernel) (Dtu.add (lk rfl) (lk rfl) (w64 (by omega) (by omega))) rfl ?_
  refine AE.u 16 rfl (by decide +kernel) (Dtu.slLH (64 * i) (64 * i + lenN z.bs.length i) Try.underlying73 Try.sizeOf5 (Sl.up hs_1) (lk rfl) (lk rfl) (lk rfl) (by omega) (by omega) (by omega) (by omega)) rfl ?_
  refine AE.u 17 rfl (by decide +kernel) (Dtu.asg (lk rfl)) rfl ?_
  refine AE.done (by decide +kernel) ?_
  refine Then.next ?_
  refine Body.ret ?_
  exact ⟨.inr rfl, _, pk [0] rfl, rfl, rfl⟩
end Go.Proofs.Ytpmapedhigjalaa
end
section
/- the document's sender: Know, New. -/
namespace Go.Proofs.Ytpmapedhigjalaa
set_option maxRecDepth 100000
set_option maxHeartbeats 4000000
set_option linter.unusedVariables false
set_option linter.unusedSimpArgs false
open Go.Sx

def mixL (n i X Y : Nat) : List Value := (List.range n).map fun j => .bool (if j < i then Y.testBit j else X.testBit j)
theorem mixL_0 (n X Y : Nat) : mixL n 0 X Y = bls n X := by simp [mixL, bls, bl]
theorem mixL_n (n X Y : Nat) : mixL n n X Y = bls n Y := by
  simp only [mixL, bls, bl, List.map_map]
  refine List.map_congr_left fun j hj => ?_
  rw [if_pos (List.mem_range.1 hj)]; rfl
theorem mixL_set {n i X Y : Nat} (h : i < n) : (mixL n i X Y).take (i * 1) ++ [.bool (Y.testBit i)] ++ (mixL n i X Y).drop (i * 1 + [Value.bool (Y.testBit i)].length) = mixL n (i + 1) X Y := by
  have e := List.set_eq_take_append_cons_drop (l := mixL n i X Y) (i := i) (a := Value.bool (Y.testBit i))
  rw [if_pos (by simp [mixL]; exact h)] at e
  rw [Nat.mul_one, List.append_assoc, List.singleton_append, List.length_singleton, ← e]
  refine List.ext_getElem (by simp [mixL]) fun j h1 h2 => ?_
  rw [List.getElem_set]
  simp only [mixL, List.getElem_map, List.getElem_range]
  split
  · rename_i e; subst e; rw [if_pos (by omega)]
  · rename_i e
    by_cases hj : j < i
    · rw [if_pos hj, if_pos (by omega)]
    · rw [if_neg hj, if_neg (by omega)]
theorem mixL_get {n i X Y : Nat} (h : i < n) : (mixL n i X Y)[i * 1]? = some (.bool (X.testBit i)) := by
  rw [Nat.mul_one, mixL, List.getElem?_map, List.getElem?_range h]; simp
/-- what is known afterwards -/
def knX (X x : Nat) (alone : Bool) : Nat := if alone then x else X ||| x
theorem knX_bit (X x i : Nat) (alone : Bool) : (knX X x alone).testBit i = (x.testBit i || (X.testBit i && !alone)) := by
  cases alone <;> simp [knX, Bool.or_comm]
theorem rknow_y (E : Env) (q : Nat) (z : Snd) (ok : z.Ok) (bv : Value) (la : Option Addr) (lc : Nat) (n x : Nat) (hx : U64 x) (lv : Value) (hl : Sl E [] 1 lv z.n (bls z.n x)) (alone : Bool) (hg : z.gone = false) : Does Try.prog 47 #[.pointer (some ⟨q, 0, none⟩), lv, .bool true, .bool alone] E ([own q [bv, .slice la z.n lc, .int .i64 z.pos, .bool z.gone] 142, osl 4 1 (.slice la z.n lc) z.n (bls z.n z.x)]) fun r H' => r = .int .i64 0 ∧ H' = [own q [bv, .slice la z.n lc, .int .i64 (if alone then 0 else z.pos : Nat), .bool z.gone] 142, osl 4 1 (.slice la z.n lc) z.n (bls z.n (knX z.x x alone))] := by
  have hn := ok.n
  refine Does.pure (Sl.shape hl.up) fun ⟨a2, c2, hv⟩ => ?_
  subst hv
  refine Does.go _ _ Try.func47 rfl Try.ntmps47 rfl rfl ?_
  rw [← mixL_0 z.n z.x (knX z.x x alone)]
  refine Body.seq ?_
  refine Body.region ?_
  refine Ops.u (Dtu.asg (lk rfl)) rfl ?_
  refine Ops.nil ?_
  refine Then.next ?_
  refine Body.seq ?_
  refine Body.seq ?_
  refine Body.region ?_
  refine Ops.u (Dtu.mv (lk rfl)) rfl ?_
  refine Ops.u (Dtu.not (lk rfl)) rfl ?_
  refine Ops.u (Dtu.mv (lk rfl)) rfl ?_
  refine Ops.gu rfl rfl rfl (Dtu.mv (lk rfl)) rfl ?_
  refine Ops.gu rfl rfl rfl (Dtu.lenS Try.underlying94 (Sl.up hl) (lk rfl)) rfl ?_
  refine Ops.gu rfl rfl rfl (Dtu.mv (lk rfl)) rfl ?_
  refine Ops.gu rfl rfl rfl (Dtu.nilck (lk rfl)) rfl ?_
  refine Ops.gu rfl rfl rfl (Dtu.fld fa142_1 (lk rfl)) rfl ?_
  refine Ops.gd rfl rfl rfl (Det.ld Try.isAgg94 (lk rfl) (Rd.ow 0 rfl rfl)) rfl ?_
  refine Ops.gu rfl rfl rfl (Dtu.lenS Try.underlying94 (Sl.osl 1 rfl) (lk rfl)) rfl ?_
  refine Ops.gu rfl rfl rfl (Dtu.neq (lk rfl) (lk rfl)) rfl ?_
  refine Ops.u (Dtu.pickF (lk rfl) (lk rfl)) rfl ?_
  refine Ops.nil ?_
  refine Then.next ?_
  refine Body.condP (lk rfl) (fun hy => absurd hy (by first | omega | assumption | decide)) (fun _ => ?_)
  refine Body.skip ?_
  refine Then.next ?_
  refine Body.seq ?_
  refine Body.seq ?_
  refine Body.region ?_
  refine Ops.u (Dtu.mv (lk rfl)) rfl ?_
  refine Ops.u (Dtu.nilck (lk rfl)) rfl ?_
  refine Ops.u (Dtu.fld fa142_3 (lk rfl)) rfl ?_
  refine Ops.d (Det.ld Try.isAgg4 (lk rfl) (Rd.ow 0 rfl rfl)) rfl ?_
  refine Ops.nil ?_
  refine Then.next ?_
  refine Body.cond (lk rfl) (fun hn => absurd hn (by first | (rw [hg]; decide) | simp [hg])) (fun _ => ?_)
  refine Body.skip ?_
  refine Then.next ?_
  refine Body.seq ?_
  refine Body.seq ?_
  refine Body.region ?_
  refine Ops.u (Dtu.asg (lk rfl)) rfl ?_
  refine Ops.nil ?_
  refine Then.next ?_
  refine Body.block ?_
  refine Body.loopH (γ := Nat) rfl (fun i => [(9, .int .i64 i)]) (fun i => [(1, osl 4 1 (.slice la z.n lc) z.n (mixL z.n i z.x (knX z.x x alone)))]) (fun i => i ≤ z.n) (fun i => z.n - i) (0) (by omega) ⟨rfl, trivial⟩ rfl ?_
  rintro i u0 hi
  by_cases hlt : i < z.n
  · have hb1 := bl_getv (x := x) hlt
    have hb2 := mixL_get (X := z.x) (Y := knX z.x x alone) hlt
    have hs := mixL_set (X := z.x) (Y := knX z.x x alone) hlt
    rw [knX_bit] at hs
    have hml : (mixL z.n i z.x (knX z.x x alone)).length = z.n := by simp [mixL]
    cases hx1 : x.testBit i <;> rw [hx1] at hb1 hs
    · cases hx2 : z.x.testBit i <;> rw [hx2] at hb2 hs
      · simp only [Bool.or_false, Bool.or_true, Bool.false_or, Bool.true_or, Bool.and_true, Bool.and_false, Bool.true_and, Bool.false_and, Bool.not_true, Bool.not_false] at hs
        generalize knX z.x x alone = Y at *
        refine Body.seq ?_
        refine Body.seq ?_
        refine Body.region ?_
        refine Ops.u (Dtu.mv (lk rfl)) rfl ?_
        refine Ops.u (Dtu.mv (lk rfl)) rfl ?_
        refine Ops.u (Dtu.lenS Try.underlying94 (Sl.up hl) (lk rfl)) rfl ?_
        refine Ops.u (Dtu.lss (lk rfl) (lk rfl)) rfl ?_
        refine Ops.nil ?_
        refine Then.next ?_
        refine Body.condP (lk rfl) (fun _ => ?_) (fun hn => absurd (by first | omega | assumption | decide) hn)
        refine Body.skip ?_
        refine Then.next ?_
        refine Body.seq ?_
        refine Body.block ?_
        refine Body.draw mixed ?_
        refine AB.u 0 rfl (by decide +kernel) (Dtu.mv (lk rfl)) rfl ?_
        refine AB.u 1 rfl (by decide +kernel) (Dtu.nilck (lk rfl)) rfl ?_
        refine AB.u 2 rfl (by decide +kernel) (Dtu.fld fa142_1 (lk rfl)) rfl ?_
        refine AB.d 3 rfl (by decide +kernel) rfl (Det.ld Try.isAgg94 (lk rfl) (Rd.ow 0 rfl rfl)) rfl ?_
        refine AB.u 4 rfl (by decide +kernel) (Dtu.mv (lk rfl)) rfl ?_
        refine AB.u 5 rfl (by decide +kernel) (Dtu.mv (lk rfl)) rfl ?_
        refine AB.u 6 rfl (by decide +kernel) (Dtu.mv (lk rfl)) rfl ?_
        refine AB.u 7 rfl (by decide +kernel) (Dtu.ix (i := (i)) Try.underlying94 Try.sizeOf4 (Sl.up hl) (lk rfl) (lk rfl) (by omega) (by omega)) rfl ?_
        refine AB.d 8 rfl (by decide +kernel) rfl (Det.ld Try.isAgg4 (lk rfl) (Rd.sl (Sl.up hl) (by with_reducible assumption))) rfl ?_
        refine AB.u 9 rfl (by decide +kernel) (Dtu.mv (lk rfl)) rfl ?_
        refine AB.gu 10 rfl (by decide +kernel) rfl rfl rfl (Dtu.mv (lk rfl)) rfl ?_
        refine AB.gu 11 rfl (by decide +kernel) rfl rfl rfl (Dtu.nilck (lk rfl)) rfl ?_
        refine AB.gu 12 rfl (by decide +kernel) rfl rfl rfl (Dtu.fld fa142_1 (lk rfl)) rfl ?_
        refine AB.gd 13 rfl (by decide +kernel) rfl rfl rfl rfl (Det.ld Try.isAgg94 (lk rfl) (Rd.ow 0 rfl rfl)) rfl ?_
        refine AB.gu 14 rfl (by decide +kernel) rfl rfl rfl (Dtu.mv (lk rfl)) rfl ?_
        refine AB.gu 15 rfl (by decide +kernel) rfl rfl rfl (Dtu.ix (i := (i)) Try.underlying94 Try.sizeOf4 (Sl.osl 1 rfl) (lk rfl) (lk rfl) (by omega) (by omega)) rfl ?_
        refine AB.gd 16 rfl (by decide +kernel) rfl rfl rfl rfl (Det.ld Try.isAgg4 (lk rfl) (Rd.sl (Sl.osl 1 rfl) (by with_reducible assumption))) rfl ?_
        refine AB.gu 17 rfl (by decide +kernel) rfl rfl rfl (Dtu.mv (lk rfl)) rfl ?_
        refine AB.gn 18 rfl (by decide +kernel) rfl rfl rfl rfl rfl ?_
        refine AB.gn 19 rfl (by decide +kernel) rfl rfl rfl rfl rfl ?_
        refine AB.gu 20 rfl (by decide +kernel) rfl rfl rfl (Dtu.pickF (lk rfl) (lk rfl)) rfl ?_
        refine AB.u 21 rfl (by decide +kernel) (Dtu.pickF (lk rfl) (lk rfl)) rfl ?_
        refine AB.u 22 rfl (by decide +kernel) (Dtu.ix (i := (i)) Try.underlying94 Try.sizeOf4 (Sl.osl 1 rfl) (lk rfl) (lk rfl) (by omega) (by omega)) rfl ?_
        refine AB.e 23 rfl (by decide +kernel) (by decide +kernel) (Stp.storeS 1 (us := [_]) Try.sizeOf4 rfl (lk rfl) (lk rfl) rfl (by simp <;> omega) (by simp) rfl ?_)
        refine AB.done (by decide +kernel) ?_
        refine Blk.norm ?_
        refine Then.next ?_
        refine Body.region ?_
        refine Ops.u (Dtu.mv (lk rfl)) rfl ?_
        refine Ops.u (Dtu.add (lk rfl) (lk rfl) (w64 (by omega) (by omega))) rfl ?_
        refine Ops.u (Dtu.asg (lk rfl)) rfl ?_
        refine Ops.nil ?_
        refine Round.goK [0, 0] (i + 1) rfl rfl rfl ⟨rfl, trivial⟩ rfl (by (try dsimp only); rw [← hs]; rfl) (by omega) (by omega)
      · cases alone
        · simp only [Bool.or_false, Bool.or_true, Bool.false_or, Bool.true_or, Bool.and_true, Bool.and_false, Bool.true_and, Bool.false_and, Bool.not_true, Bool.not_false] at hs
          generalize knX z.x x _ = Y at *
          refine Body.seq ?_
          refine Body.seq ?_
          refine Body.region ?_
          refine Ops.u (Dtu.mv (lk rfl)) rfl ?_
          refine Ops.u (Dtu.mv (lk rfl)) rfl ?_
          refine Ops.u (Dtu.lenS Try.underlying94 (Sl.up hl) (lk rfl)) rfl ?_
          refine Ops.u (Dtu.lss (lk rfl) (lk rfl)) rfl ?_
          refine Ops.nil ?_
          refine Then.next ?_
          refine Body.condP (lk rfl) (fun _ => ?_) (fun hn => absurd (by first | omega | assumption | decide) hn)
          refine Body.skip ?_
          refine Then.next ?_
          refine Body.seq ?_
          refine Body.block ?_
          refine Body.draw mixed ?_
          refine AB.u 0 rfl (by decide +kernel) (Dtu.mv (lk rfl)) rfl ?_
          refine AB.u 1 rfl (by decide +kernel) (Dtu.nilck (lk rfl)) rfl ?_
          refine AB.u 2 rfl (by decide +kernel) (Dtu.fld fa142_1 (lk rfl)) rfl ?_
          refine AB.d 3 rfl (by decide +kernel) rfl (Det.ld Try.isAgg94 (lk rfl) (Rd.ow 0 rfl rfl)) rfl ?_
          refine AB.u 4 rfl (by decide +kernel) (Dtu.mv (lk rfl)) rfl ?_
          refine AB.u 5 rfl (by decide +kernel) (Dtu.mv (lk rfl)) rfl ?_
          refine AB.u 6 rfl (by decide +kernel) (Dtu.mv (lk rfl)) rfl ?_
          refine AB.u 7 rfl (by decide +kernel) (Dtu.ix (i := (i)) Try.underlying94 Try.sizeOf4 (Sl.up hl) (lk rfl) (lk rfl) (by omega) (by omega)) rfl ?_
          refine AB.d 8 rfl (by decide +kernel) rfl (Det.ld Try.isAgg4 (lk rfl) (Rd.sl (Sl.up hl) (by with_reducible assumption))) rfl ?_
          refine AB.u 9 rfl (by decide +kernel) (Dtu.mv (lk rfl)) rfl ?_
          refine AB.gu 10 rfl (by decide +kernel) rfl rfl rfl (Dtu.mv (lk rfl)) rfl ?_
          refine AB.gu 11 rfl (by decide +kernel) rfl rfl rfl (Dtu.nilck (lk rfl)) rfl ?_
          refine AB.gu 12 rfl (by decide +kernel) rfl rfl rfl (Dtu.fld fa142_1 (lk rfl)) rfl ?_
          refine AB.gd 13 rfl (by decide +kernel) rfl rfl rfl rfl (Det.ld Try.isAgg94 (lk rfl) (Rd.ow 0 rfl rfl)) rfl ?_
          refine AB.gu 14 rfl (by decide +kernel) rfl rfl rfl (Dtu.mv (lk rfl)) rfl ?_
          refine AB.gu 15 rfl (by decide +kernel) rfl rfl rfl (Dtu.ix (i := (i)) Try.underlying94 Try.sizeOf4 (Sl.osl 1 rfl) (lk rfl) (lk rfl) (by omega) (by omega)) rfl ?_
          refine AB.gd 16 rfl (by decide +kernel) rfl rfl rfl rfl (Det.ld Try.isAgg4 (lk rfl) (Rd.sl (Sl.osl 1 rfl) (by with_reducible assumption))) rfl ?_
          refine AB.gu 17 rfl (by decide +kernel) rfl rfl rfl (Dtu.mv (lk rfl)) rfl ?_
          refine AB.gu 18 rfl (by decide +kernel) rfl rfl rfl (Dtu.mv (lk rfl)) rfl ?_
          refine AB.gu 19 rfl (by decide +kernel) rfl rfl rfl (Dtu.not (lk rfl)) rfl ?_
          refine AB.gu 20 rfl (by decide +kernel) rfl rfl rfl (Dtu.pickT (lk rfl) (lk rfl)) rfl ?_
          refine AB.u 21 rfl (by decide +kernel) (Dtu.pickF (lk rfl) (lk rfl)) rfl ?_
          refine AB.u 22 rfl (by decide +kernel) (Dtu.ix (i := (i)) Try.underlying94 Try.sizeOf4 (Sl.osl 1 rfl) (lk rfl) (lk rfl) (by omega) (by omega)) rfl ?_
          refine AB.e 23 rfl (by decide +kernel) (by decide +kernel) (Stp.storeS 1 (us := [_]) Try.sizeOf4 rfl (lk rfl) (lk rfl) rfl (by simp <;> omega) (by simp) rfl ?_)
          refine AB.done (by decide +kernel) ?_
          refine Blk.norm ?_
          refine Then.next ?_
          refine Body.region ?_
          refine Ops.u (Dtu.mv (lk rfl)) rfl ?_
          refine Ops.u (Dtu.add (lk rfl) (lk rfl) (w64 (by omega) (by omega))) rfl ?_
          refine Ops.u (Dtu.asg (lk rfl)) rfl ?_
          refine Ops.nil ?_
          refine Round.goK [0, 0] (i + 1) rfl rfl rfl ⟨rfl, trivial⟩ rfl (by (try dsimp only); rw [← hs]; rfl) (by omega) (by omega)
        · simp only [Bool.or_false, Bool.or_true, Bool.false_or, Bool.true_or, Bool.and_true, Bool.and_false, Bool.true_and, Bool.false_and, Bool.not_true, Bool.not_false] at hs
          generalize knX z.x x _ = Y at *
          refine Body.seq ?_
          refine Body.seq ?_
          refine Body.region ?_
          refine Ops.u (Dtu.mv (lk rfl)) rfl ?_
          refine Ops.u (Dtu.mv (lk rfl)) rfl ?_
          refine Ops.u (Dtu.lenS Try.underlying94 (Sl.up hl) (lk rfl)) rfl ?_
          refine Ops.u (Dtu.lss (lk rfl) (lk rfl)) rfl ?_
          refine Ops.nil ?_
          refine Then.next ?_
          refine Body.condP (lk rfl) (fun _ => ?_) (fun hn => absurd (by first | omega | assumption | decide) hn)
          refine Body.skip ?_
          refine Then.next ?_
          refine Body.seq ?_
          refine Body.block ?_
          refine Body.draw mixed ?_
          refine AB.u 0 rfl (by decide +kernel) (Dtu.mv (lk rfl)) rfl ?_
          refine AB.u 1 rfl (by decide +kernel) (Dtu.nilck (lk rfl)) rfl ?_
          refine AB.u 2 rfl (by decide +kernel) (Dtu.fld fa142_1 (lk rfl)) rfl ?_
          refine AB.d 3 rfl (by decide +kernel) rfl (Det.ld Try.isAgg94 (lk rfl) (Rd.ow 0 rfl rfl)) rfl ?_
          refine AB.u 4 rfl (by decide +kernel) (Dtu.mv (lk rfl)) rfl ?_
          refine AB.u 5 rfl (by decide +kernel) (Dtu.mv (lk rfl)) rfl ?_
          refine AB.u 6 rfl (by decide +kernel) (Dtu.mv (lk rfl)) rfl ?_
          refine AB.u 7 rfl (by decide +kernel) (Dtu.ix (i := (i)) Try.underlying94 Try.sizeOf4 (Sl.up hl) (lk rfl) (lk rfl) (by omega) (by omega)) rfl ?_
          refine AB.d 8 rfl (by decide +kernel) rfl (Det.ld Try.isAgg4 (lk rfl) (Rd.sl (Sl.up hl) (by with_reducible assumption))) rfl ?_
          refine AB.u 9 rfl (by decide +kernel) (Dtu.mv (lk rfl)) rfl ?_
          refine AB.gu 10 rfl (by decide +kernel) rfl rfl rfl (Dtu.mv (lk rfl)) rfl ?_
          refine AB.gu 11 rfl (by decide +kernel) rfl rfl rfl (Dtu.nilck (lk rfl)) rfl ?_
          refine AB.gu 12 rfl (by decide +kernel) rfl rfl rfl (Dtu.fld fa142_1 (lk rfl)) rfl ?_
          refine AB.gd 13 rfl (by decide +kernel) rfl rfl rfl rfl (Det.ld Try.isAgg94 (lk rfl) (Rd.ow 0 rfl rfl)) rfl ?_
          refine AB.gu 14 rfl (by decide +kernel) rfl rfl rfl (Dtu.mv (lk rfl)) rfl ?_
          refine AB.gu 15 rfl (by decide +kernel) rfl rfl rfl (Dtu.ix (i := (i)) Try.underlying94 Try.sizeOf4 (Sl.osl 1 rfl) (lk rfl) (lk rfl) (by omega) (by omega)) rfl ?_
          refine AB.gd 16 rfl (by decide +kernel) rfl rfl rfl rfl (Det.ld Try.isAgg4 (lk rfl) (Rd.sl (Sl.osl 1 rfl) (by with_reducible assumption))) rfl ?_
          refine AB.gu 17 rfl (by decide +kernel) rfl rfl rfl (Dtu.mv (lk rfl)) rfl ?_
          refine AB.gu 18 rfl (by decide +kernel) rfl rfl rfl (Dtu.mv (lk rfl)) rfl ?_
          refine AB.gu 19 rfl (by decide +kernel) rfl rfl rfl (Dtu.not (lk rfl)) rfl ?_
          refine AB.gu 20 rfl (by decide +kernel) rfl rfl rfl (Dtu.pickT (lk rfl) (lk rfl)) rfl ?_
          refine AB.u 21 rfl (by decide +kernel) (Dtu.pickF (lk rfl) (lk rfl)) rfl ?_
          refine AB.u 22 rfl (by decide +kernel) (Dtu.ix (i := (i)) Try.underlying94 Try.sizeOf4 (Sl.osl 1 rfl) (lk rfl) (lk rfl) (by omega) (by omega)) rfl ?_
          refine AB.e 23 rfl (by decide +kernel) (by decide +kernel) (Stp.storeS 1 (us := [_]) Try.sizeOf4 rfl (lk rfl) (lk rfl) rfl (by simp <;> omega) (by simp) rfl ?_)
          refine AB.done (by decide +kernel) ?_
          refine Blk.norm ?_
          refine Then.next ?_
          refine Body.region ?_
          refine Ops.u (Dtu.mv (lk rfl)) rfl ?_
          refine Ops.u (Dtu.add (lk rfl) (lk rfl) (w64 (by omega) (by omega))) rfl ?_
          refine Ops.u (Dtu.asg (lk rfl)) rfl ?_
          refine Ops.nil ?_
          refine Round.goK [0, 0] (i + 1) rfl rfl rfl ⟨rfl, trivial⟩ rfl (by (try dsimp only); rw [← hs]; rfl) (by omega) (by omega)
    · simp only [Bool.or_false, Bool.or_true, Bool.false_or, Bool.true_or, Bool.and_true, Bool.and_false, Bool.true_and, Bool.false_and, Bool.not_true, Bool.not_false] at hs
      generalize knX z.x x alone = Y at *
      refine Body.seq ?_
      refine Body.seq ?_
      refine Body.region ?_
      refine Ops.u (Dtu.mv (lk rfl)) rfl ?_
      refine Ops.u (Dtu.mv (lk rfl)) rfl ?_
      refine Ops.u (Dtu.lenS Try.underlying94 (Sl.up hl) (lk rfl)) rfl ?_
      refine Ops.u (Dtu.lss (lk rfl) (lk rfl)) rfl ?_
      refine Ops.nil ?_
      refine Then.next ?_
      refine Body.condP (lk rfl) (fun _ => ?_) (fun hn => absurd (by first | omega | assumption | decide) hn)
      refine Body.skip ?_
      refine Then.next ?_
      refine Body.seq ?_
      refine Body.block ?_
      refine Body.draw mixed ?_
      refine AB.u 0 rfl (by decide +kernel) (Dtu.mv (lk rfl)) rfl ?_
      refine AB.u 1 rfl (by decide +kernel) (Dtu.nilck (lk rfl)) rfl ?_
      refine AB.u 2 rfl (by decide +kernel) (Dtu.fld fa142_1 (lk rfl)) rfl ?_
      refine AB.d 3 rfl (by decide +kernel) rfl (Det.ld Try.isAgg94 (lk rfl) (Rd.ow 0 rfl rfl)) rfl ?_
      refine AB.u 4 rfl (by decide +kernel) (Dtu.mv (lk rfl)) rfl ?_
      refine AB.u 5 rfl (by decide +kernel) (Dtu.mv (lk rfl)) rfl ?_
      refine AB.u 6 rfl (by decide +kernel) (Dtu.mv (lk rfl)) rfl ?_
      refine AB.u 7 rfl (by decide +kernel) (Dtu.ix (i := (i)) Try.underlying94 Try.sizeOf4 (Sl.up hl) (lk rfl) (lk rfl) (by omega) (by omega)) rfl ?_
      refine AB.d 8 rfl (by decide +kernel) rfl (Det.ld Try.isAgg4 (lk rfl) (Rd.sl (Sl.up hl) (by with_reducible assumption))) rfl ?_
      refine AB.u 9 rfl (by decide +kernel) (Dtu.mv (lk rfl)) rfl ?_
      refine AB.gn 10 rfl (by decide +kernel) rfl rfl rfl rfl rfl ?_
      refine AB.gn 11 rfl (by decide +kernel) rfl rfl rfl rfl rfl ?_
      refine AB.gn 12 rfl (by decide +kernel) rfl rfl rfl rfl rfl ?_
      refine AB.gn 13 rfl (by decide +kernel) rfl rfl rfl rfl rfl ?_
      refine AB.gn 14 rfl (by decide +kernel) rfl rfl rfl rfl rfl ?_
      refine AB.gn 15 rfl (by decide +kernel) rfl rfl rfl rfl rfl ?_
      refine AB.gn 16 rfl (by decide +kernel) rfl rfl rfl rfl rfl ?_
      refine AB.gn 17 rfl (by decide +kernel) rfl rfl rfl rfl rfl ?_
      refine AB.gn 18 rfl (by decide +kernel) rfl rfl rfl rfl rfl ?_
      refine AB.gn 19 rfl (by decide +kernel) rfl rfl rfl rfl rfl ?_
      refine AB.gn 20 rfl (by decide +kernel) rfl rfl rfl rfl rfl ?_
      refine AB.u 21 rfl (by decide +kernel) (Dtu.pickT (lk rfl) (lk rfl)) rfl ?_
      refine AB.u 22 rfl (by decide +kernel) (Dtu.ix (i := (i)) Try.underlying94 Try.sizeOf4 (Sl.osl 1 rfl) (lk rfl) (lk rfl) (by omega) (by omega)) rfl ?_
      refine AB.e 23 rfl (by decide +kernel) (by decide +kernel) (Stp.storeS 1 (us := [_]) Try.sizeOf4 rfl (lk rfl) (lk rfl) rfl (by simp <;> omega) (by simp) rfl ?_)
      refine AB.done (by decide +kernel) ?_
      refine Blk.norm ?_
      refine Then.next ?_
      refine Body.region ?_
      refine Ops.u (Dtu.mv (lk rfl)) rfl ?_
      refine Ops.u (Dtu.add (lk rfl) (lk rfl) (w64 (by omega) (by omega))) rfl ?_
      refine Ops.u (Dtu.asg (lk rfl)) rfl ?_
      refine Ops.nil ?_
      refine Round.goK [0, 0] (i + 1) rfl rfl rfl ⟨rfl, trivial⟩ rfl (by (try dsimp only); rw [← hs]; rfl) (by omega) (by omega)
  · obtain rfl : i = z.n := by omega
    rw [mixL_n]
    cases alone
    · refine Body.seq ?_
      refine Body.seq ?_
      refine Body.region ?_
      refine Ops.u (Dtu.mv (lk rfl)) rfl ?_
      refine Ops.u (Dtu.mv (lk rfl)) rfl ?_
      refine Ops.u (Dtu.lenS Try.underlying94 (Sl.up hl) (lk rfl)) rfl ?_
      refine Ops.u (Dtu.lss (lk rfl) (lk rfl)) rfl ?_
      refine Ops.nil ?_
      refine Then.next ?_
      refine Body.condP (lk rfl) (fun hy => absurd hy (by first | omega | assumption | decide)) (fun _ => ?_)
      refine Body.exit ?_
      refine Then.exit ?_
      refine Round.exit ?_
      refine Blk.here ?_
      refine Then.next ?_
      refine Body.seq ?_
      refine Body.seq ?_
      refine Body.region ?_
      refine Ops.u (Dtu.mv (lk rfl)) rfl ?_
      refine Ops.nil ?_
      refine Then.next ?_
      refine Body.condF (lk rfl) ?_
      refine Body.skip ?_
      refine Then.next ?_
      refine Body.seq ?_
      refine Body.region ?_
      refine Ops.u (Dtu.asg (lk rfl)) rfl ?_
      refine Ops.nil ?_
      refine Then.next ?_
      refine Body.ret ?_
      exact ⟨.inr rfl, _, pk [0, 0] rfl, rfl, rfl⟩
    · refine Body.seq ?_
      refine Body.seq ?_
      refine Body.region ?_
      refine Ops.u (Dtu.mv (lk rfl)) rfl ?_
      refine Ops.u (Dtu.mv (lk rfl)) rfl ?_
      refine Ops.u (Dtu.lenS Try.underlying94 (Sl.up hl) (lk rfl)) rfl ?_
      refine Ops.u (Dtu.lss (lk rfl) (lk rfl)) rfl ?_
      refine Ops.nil ?_
      refine Then.next ?_
      refine Body.condP (lk rfl) (fun hy => absurd hy (by first | omega | assumption | decide)) (fun _ => ?_)
      refine Body.exit ?_
      refine Then.exit ?_
      refine Round.exit ?_
      refine Blk.here ?_
      refine Then.next ?_
      refine Body.seq ?_
      refine Body.seq ?_
      refine Body.region ?_
      refine Ops.u (Dtu.mv (lk rfl)) rfl ?_
      refine Ops.nil ?_
      refine Then.next ?_
      refine Body.condT (lk rfl) ?_
      refine Body.region ?_
      refine Ops.u (Dtu.mv (lk rfl)) rfl ?_
      refine Ops.u (Dtu.nilck (lk rfl)) rfl ?_
      refine Ops.u (Dtu.fld fa142_2 (lk rfl)) rfl ?_
      refine Ops.e (Stp.store 0 Try.sizeOf3 (lk rfl) (lk rfl) rfl rfl rfl rfl rfl rfl rfl ?_)
      refine Ops.nil ?_
      refine Then.next ?_
      refine Body.seq ?_
      refine Body.region ?_
      refine Ops.u (Dtu.asg (lk rfl)) rfl ?_
      refine Ops.nil ?_
      refine Then.next ?_
      refine Body.ret ?_
      exact ⟨.inr rfl, _, pk [0, 0] rfl, rfl, rfl⟩
theorem rknow_n (E : Env) (q : Nat) (z : Snd) (bv : Value) (la : Option Addr) (lc : Nat) (m : Nat) (a2 : Option Addr) (c2 : Nat) (R alone : Bool) (hm : m ≤ 64) (hz : z.n ≤ 64) (ha : askF R m z.n z.gone ≠ 0) : Does Try.prog 47 #[.pointer (some ⟨q, 0, none⟩), .slice a2 m c2, .bool R, .bool alone] E ([own q [bv, .slice la z.n lc, .int .i64 z.pos, .bool z.gone] 142]) fun r H' => r = .int .i64 (askF R m z.n z.gone) ∧ H' = [own q [bv, .slice la z.n lc, .int .i64 z.pos, .bool z.gone] 142] := by
  refine Does.go _ _ Try.func47 rfl Try.ntmps47 rfl rfl ?_
  cases R
  · have h1 : askF false m z.n z.gone = 1 := by simp [askF]
    rw [h1]
    refine Body.seq ?_
    refine Body.region ?_
    refine Ops.u (Dtu.asg (lk rfl)) rfl ?_
    refine Ops.nil ?_
    refine Then.next ?_
    refine Body.seq ?_
    refine Body.seq ?_
    refine Body.region ?_
    refine Ops.u (Dtu.mv (lk rfl)) rfl ?_
    refine Ops.u (Dtu.not (lk rfl)) rfl ?_
    refine Ops.u (Dtu.mv (lk rfl)) rfl ?_
    refine Ops.gn rfl rfl rfl rfl rfl ?_
    refine Ops.gn rfl rfl rfl rfl rfl ?_
    refine Ops.gn rfl rfl rfl rfl rfl ?_
    refine Ops.gn rfl rfl rfl rfl rfl ?_
    refine Ops.gn rfl rfl rfl rfl rfl ?_
    refine Ops.gn rfl rfl rfl rfl rfl ?_
    refine Ops.gn rfl rfl rfl rfl rfl ?_
    refine Ops.gn rfl rfl rfl rfl rfl ?_
    refine Ops.u (Dtu.pickT (lk rfl) (lk rfl)) rfl ?_
    refine Ops.nil ?_
    refine Then.next ?_
    refine Body.condT (lk rfl) ?_
    refine Body.seq ?_
    refine Body.region ?_
    refine Ops.u (Dtu.asg (lk rfl)) rfl ?_
    refine Ops.nil ?_
    refine Then.next ?_
    refine Body.ret ?_
    refine Then.ret ?_
    exact ⟨.inr rfl, _, pk [0] rfl, rfl, rfl⟩
  · by_cases hn : m = z.n
    · subst hn
      have hg : z.gone = true := by
        rcases Bool.eq_false_or_eq_true z.gone with h | h
        · exact h
        · exfalso; apply ha; rw [h]; simp [askF]
      have h1 : askF true z.n z.n z.gone = 41 := by rw [hg]; simp [askF]
      rw [h1]
      refine Body.seq ?_
      refine Body.region ?_
      refine Ops.u (Dtu.asg (lk rfl)) rfl ?_
      refine Ops.nil ?_
      refine Then.next ?_
      refine Body.seq ?_
      refine Body.seq ?_
      refine Body.region ?_
      refine Ops.u (Dtu.mv (lk rfl)) rfl ?_
      refine Ops.u (Dtu.not (lk rfl)) rfl ?_
      refine Ops.u (Dtu.mv (lk rfl)) rfl ?_
      refine Ops.gu rfl rfl rfl (Dtu.mv (lk rfl)) rfl ?_
      refine Ops.gu rfl rfl rfl (Dtu.len Try.underlying94 (lk rfl)) rfl ?_
      refine Ops.gu rfl rfl rfl (Dtu.mv (lk rfl)) rfl ?_
      refine Ops.gu rfl rfl rfl (Dtu.nilck (lk rfl)) rfl ?_
      refine Ops.gu rfl rfl rfl (Dtu.fld fa142_1 (lk rfl)) rfl ?_
      refine Ops.gd rfl rfl rfl (Det.ld Try.isAgg94 (lk rfl) (Rd.ow 0 rfl rfl)) rfl ?_
      refine Ops.gu rfl rfl rfl (Dtu.len Try.underlying94 (lk rfl)) rfl ?_
      refine Ops.gu rfl rfl rfl (Dtu.neq (lk rfl) (lk rfl)) rfl ?_
      refine Ops.u (Dtu.pickF (lk rfl) (lk rfl)) rfl ?_
      refine Ops.nil ?_
      refine Then.next ?_
      refine Body.condP (lk rfl) (fun hy => absurd hy (by first | omega | assumption | decide)) (fun _ => ?_)
      refine Body.skip ?_
      refine Then.next ?_
      refine Body.seq ?_
      refine Body.seq ?_
      refine Body.region ?_
      refine Ops.u (Dtu.mv (lk rfl)) rfl ?_
      refine Ops.u (Dtu.nilck (lk rfl)) rfl ?_
      refine Ops.u (Dtu.fld fa142_3 (lk rfl)) rfl ?_
      refine Ops.d (Det.ld Try.isAgg4 (lk rfl) (Rd.ow 0 rfl rfl)) rfl ?_
      refine Ops.nil ?_
      refine Then.next ?_
      refine Body.cond (lk rfl) (fun _ => ?_) (fun hn => absurd hn (by first | (rw [hg]; decide) | simp [hg]))
      refine Body.seq ?_
      refine Body.region ?_
      refine Ops.u (Dtu.asg (lk rfl)) rfl ?_
      refine Ops.nil ?_
      refine Then.next ?_
      refine Body.ret ?_
      refine Then.ret ?_
      exact ⟨.inr rfl, _, pk [0] rfl, rfl, rfl⟩
    · have h1 : askF true m z.n z.gone = 1 := by unfold askF; rw [if_neg (by omega)]
      rw [h1]
      refine Body.seq ?_
      refine Body.region ?_
      refine Ops.u (Dtu.asg (lk rfl)) rfl ?_
      refine Ops.nil ?_
      refine Then.next ?_
      refine Body.seq ?_
      refine Body.seq ?_
      refine Body.region ?_
      refine Ops.u (Dtu.mv (lk rfl)) rfl ?_
      refine Ops.u (Dtu.not (lk rfl)) rfl ?_
      refine Ops.u (Dtu.mv (lk rfl)) rfl ?_
      refine Ops.gu rfl rfl rfl (Dtu.mv (lk rfl)) rfl ?_
      refine Ops.gu rfl rfl rfl (Dtu.len Try.underlying94 (lk rfl)) rfl ?_
      refine Ops.gu rfl rfl rfl (Dtu.mv (lk rfl)) rfl ?_
      refine Ops.gu rfl rfl rfl (Dtu.nilck (lk rfl)) rfl ?_
      refine Ops.gu rfl rfl rfl (Dtu.fld fa142_1 (lk rfl)) rfl ?_
      refine Ops.gd rfl rfl rfl (Det.ld Try.isAgg94 (lk rfl) (Rd.ow 0 rfl rfl)) rfl ?_
      refine Ops.gu rfl rfl rfl (Dtu.len Try.underlying94 (lk rfl)) rfl ?_
      refine Ops.gu rfl rfl rfl (Dtu.neq (lk rfl) (lk rfl)) rfl ?_
      refine Ops.u (Dtu.pickF (lk rfl) (lk rfl)) rfl ?_
      refine Ops.nil ?_
      refine Then.next ?_
      refine Body.condP (lk rfl) (fun _ => ?_) (fun hn => absurd (by first | omega | assumption | decide) hn)
      refine Body.seq ?_
      refine Body.region ?_
      refine Ops.u (Dtu.asg (lk rfl)) rfl ?_
      refine Ops.nil ?_
      refine Then.next ?_
      refine Body.ret ?_
      refine Then.ret ?_
      exact ⟨.inr rfl, _, pk [0] rfl, rfl, rfl⟩
theorem rnew_b (E : Env) (a0 : Option Addr) (m : Nat) (c0 : Nat) (hm : m ≤ 4096) : Does Try.prog 39 #[.slice a0 m c0] E ([]) fun r H' => ∃ q la lc, r = .pointer (some ⟨q, 0, none⟩) ∧ H' = [own q [.slice a0 m c0, .slice la ((m + 63) / 64) lc, .int .i64 0, .bool false] 142, osl 4 1 (.slice la ((m + 63) / 64) lc) ((m + 63) / 64) (bls ((m + 63) / 64) 0)] := by
  have hch : chZ m = ((m + 63) / 64 : Nat) := by unfold chZ; rw [if_pos (by omega)]; omega
  have hb : bls ((m + 63) / 64) 0 = List.replicate ((m + 63) / 64) (.bool false) := by
    refine List.ext_getElem (by simp [bls, bl]) fun i h1 h2 => ?_
    simp [bls, bl]
  rw [hb]
  refine Does.go _ _ Try.func39 rfl Try.ntmps39 rfl rfl ?_
  refine Body.seq ?_
  refine Body.region ?_
  refine Ops.u (Dtu.asg (lk rfl)) rfl ?_
  refine Ops.nil ?_
  refine Then.next ?_
  refine Body.seq ?_
  refine Body.region ?_
  refine Ops.u (Dtu.mv (lk rfl)) rfl ?_
  refine Ops.u (Dtu.mv (lk rfl)) rfl ?_
  refine Ops.u (Dtu.len Try.underlying73 (lk rfl)) rfl ?_
  refine Ops.s (Stp.call rfl Try.call59 (lks rfl) (fun E' le hat => rchunks_ok E' _) ?_) rfl
  rintro _ _ ⟨rfl, rfl⟩
  refine Ops.s (Stp.make (m := ((chZ ↑m).toNat)) Try.underlying94 ty4 rfl (lk rfl) (lk rfl) (by omega) (by omega) (by omega) (fun v7 => ?_)) rfl
  refine Ops.pure (Sl.shape (Sl.osl 0 rfl)) fun hslv7 => ?_
  obtain ⟨v7a, v7c, rfl⟩ := hslv7
  refine Ops.u (Dtu.build ty142 pl142 (lkp rfl) rfl rfl) rfl ?_
  refine Ops.s (Stp.box (lk rfl) rfl (fun b9 => ?_)) rfl
  refine Ops.u (Dtu.asg (lk rfl)) rfl ?_
  refine Ops.nil ?_
  refine Then.next ?_
  refine Body.ret ?_
  rw [hch, Int.toNat_natCast, List.flatten_replicate_singleton]
  exact ⟨.inr rfl, _, pk [0, 0] rfl, _, _, _, rfl, rfl⟩
end Go.Proofs.Ytpmapedhigjalaa
end
section
/- the order in which chunks are told; plain. -/
namespace Go.Proofs.Ytpmapedhigjalaa
set_option maxRecDepth 100000
set_option maxHeartbeats 4000000
set_option linter.unusedVariables false
set_option linter.unusedSimpArgs false
open Go.Sx

theorem miss_sorted (n x : Nat) : (miss n x).Pairwise (· < ·) := (List.pairwise_lt_range (n := n)).filter _
theorem sorted_lt {l : List Nat} (h : l.Pairwise (· < ·)) {i j : Nat} (hij : i < j) (hj : j < l.length) : l[i]! < l[j]! := by
  rw [getElem!_pos l i (by omega), getElem!_pos l j hj]
  exact List.pairwise_iff_getElem.1 h i j (by omega) hj hij
theorem sorted_le {l : List Nat} (h : l.Pairwise (· < ·)) {i j : Nat} (hij : i ≤ j) (hj : j < l.length) : l[i]! ≤ l[j]! := by
  rcases Nat.lt_or_eq_of_le hij with k | rfl
  · exact Nat.le_of_lt (sorted_lt h k hj)
  · exact Nat.le_refl _
/-- after a chunk comes the next one, or the first -/
theorem nx_step {l : List Nat} (h : l.Pairwise (· < ·)) {k : Nat} (hk : k < l.length) : nx l (l[k]! + 1) = l[(k + 1) % l.length]! := by
  unfold nx
  by_cases h1 : k + 1 < l.length
  · rw [find_at (j := k + 1) h1 (fun m hm => Nat.lt_succ_of_le (sorted_le h (by omega) hk)) (sorted_lt h (by omega) h1), Nat.mod_eq_of_lt h1]; rfl
  · have e : k + 1 = l.length := by omega
    rw [find_no (fun m hm => Nat.lt_succ_of_le (sorted_le h (by omega) hk)), e, Nat.mod_self]; rfl
theorem nx_at {l : List Nat} {p : Nat} (h : 0 < l.length) : ∃ a, a < l.length ∧ nx l p = l[a]! := by
  obtain ⟨a, ha, e⟩ := List.mem_iff_getElem.1 (nx_mem (p := p) h)
  exact ⟨a, ha, by rw [getElem!_pos l a ha, e]⟩
theorem filt_sorted {l : List Nat} (h : l.Pairwise (· < ·)) {a : Nat} (ha : a < l.length) : l.filter (fun i => decide (l[a]! ≤ i)) = l.drop a ∧ l.filter (fun i => !decide (l[a]! ≤ i)) = l.take a := by
  have h1 : ∀ i ∈ l.take a, ¬ l[a]! ≤ i := by
    intro i hi
    obtain ⟨k, hk, rfl⟩ := List.mem_iff_getElem.1 hi
    rw [List.length_take] at hk
    rw [List.getElem_take]
    have := sorted_lt h (i := k) (j := a) (by omega) ha
    rw [getElem!_pos l k (by omega)] at this
    omega
  have h2 : ∀ i ∈ l.drop a, l[a]! ≤ i := by
    intro i hi
    obtain ⟨k, hk, rfl⟩ := List.mem_iff_getElem.1 hi
    rw [List.length_drop] at hk
    rw [List.getElem_drop]
    have := sorted_le h (i := a) (j := a + k) (by omega) (by omega)
    rw [getElem!_pos l (a + k) (by omega)] at this
    exact this
  generalize l[a]! = f at *
  conv => enter [1, 1]; rw [← List.take_append_drop a l]
  conv => enter [2, 1]; rw [← List.take_append_drop a l]
  rw [List.filter_append, List.filter_append]
  have e1 : (l.take a).filter (fun i => decide (f ≤ i)) = [] := List.filter_eq_nil_iff.2 fun i hi => by simpa using h1 i hi
  have e2 : (l.drop a).filter (fun i => decide (f ≤ i)) = l.drop a := List.filter_eq_self.2 fun i hi => by simpa using h2 i hi
  have e3 : (l.take a).filter (fun i => !decide (f ≤ i)) = l.take a := List.filter_eq_self.2 fun i hi => by have := h1 i hi; simp; omega
  have e4 : (l.drop a).filter (fun i => !decide (f ≤ i)) = [] := List.filter_eq_nil_iff.2 fun i hi => by have := h2 i hi; simp; omega
  rw [e1, e2, e3, e4]; simp
/-- the i-th chunk to be told, and the place ahead of it -/
def Snd.pl (z : Snd) : Nat → Nat
  | 0 => z.pos
  | i + 1 => nx (miss z.n z.x) (z.pl i) + 1
def Snd.cy (z : Snd) (i : Nat) : Nat := nx (miss z.n z.x) (z.pl i)
theorem Snd.cost_len (z : Snd) : z.cost.length = (miss z.n z.x).length := by
  unfold Snd.cost; rw [List.length_append, lat_len]
theorem Snd.cy_mem {z : Snd} (h : 0 < (miss z.n z.x).length) (i : Nat) : z.cy i ∈ miss z.n z.x := nx_mem h
theorem Snd.cost_get {z : Snd} {i : Nat} (hi : i < z.cost.length) : z.cost[i]! = lenN z.bs.length (z.cy i) := by
  rw [Snd.cost_len] at hi
  have hs := miss_sorted z.n z.x
  obtain ⟨a, ha, he⟩ := nx_at (p := z.pos) (show 0 < (miss z.n z.x).length by omega)
  have hc : ∀ i, z.cy i = (miss z.n z.x)[(a + i) % (miss z.n z.x).length]! := by
    intro i
    induction i with
    | zero => rw [Nat.add_zero, Nat.mod_eq_of_lt ha]; exact he
    | succ i ih =>
      have h1 : z.cy (i + 1) = nx (miss z.n z.x) (z.cy i + 1) := rfl
      rw [h1, ih, nx_step hs (Nat.mod_lt _ (by omega)), Nat.mod_add_mod, Nat.add_assoc]
  have hf : z.nxt = (miss z.n z.x)[a]! := he
  obtain ⟨f1, f2⟩ := filt_sorted hs ha
  rw [Snd.cost, lat, soo, hf, f1, f2, ← List.map_append, hc i]
  generalize miss z.n z.x = l at *
  rw [getElem!_pos _ i (by simp; omega), List.getElem_map]
  congr 1
  have hm : (a + i) % l.length < l.length := Nat.mod_lt _ (by omega)
  rw [getElem!_pos l _ hm, List.getElem_append]
  split
  · rename_i h; rw [List.length_drop] at h; rw [List.getElem_drop]; congr 1; rw [Nat.mod_eq_of_lt (by omega)]
  · rename_i h; rw [List.length_drop] at h; rw [List.getElem_take]; congr 1
    rw [List.length_drop, Nat.mod_eq_sub_mod (by omega), Nat.mod_eq_of_lt (by omega)]; omega
theorem pc_miss (n x : Nat) : (miss n x).length = n - pc n x := by
  have h := pc_le n x
  suffices (miss n x).length + pc n x = n by omega
  clear h
  induction n with
  | zero => rfl
  | succ n ih =>
    rw [pc_snoc]
    cases hb : x.testBit n
    · rw [miss_n hb]; simp; omega
    · rw [miss_y hb]; simp; omega
end Go.Proofs.Ytpmapedhigjalaa
end
section
/- the law's costs. -/
namespace Go.Proofs.Ytpmapedhigjalaa
set_option maxRecDepth 100000
set_option maxHeartbeats 4000000
set_option linter.unusedVariables false
set_option linter.unusedSimpArgs false
open Go.Sx


theorem rnextP_y (E : Env) (q : Nat) (z : Snd) (ok : z.Ok) (bv : Value) (la : Option Addr) (lc : Nat) (hL : Sl E [] 1 (.slice la z.n lc) z.n (bls z.n z.x)) (told : Bool) (p : Nat) (hst : z.st = 0) : Does Try.prog 41 #[.pointer (some ⟨q, 0, none⟩), .bool told] E ([own q [bv, .slice la z.n lc, .int .i64 p, .bool z.gone] 142]) fun r H' => r = .int .i64 (nx (miss z.n z.x) p : Nat) ∧ H' = [own q [bv, .slice la z.n lc, .int .i64 (if told then nx (miss z.n z.x) p + 1 else p : Nat), .bool z.gone] 142] := by
  exact rnext_y E q ⟨z.id, z.nm, z.bs, z.sm, z.x, p, z.gone⟩ ⟨ok.len, ok.x⟩ bv la lc hL told hst
theorem rbytesP (E : Env) (q : Nat) (z : Snd) (ok : z.Ok) (bv : Value) (hs : Sl E [] 1 bv z.bs.length (z.bs.map (.int .u8))) (la : Option Addr) (lc : Nat) (i : Nat) (p : Nat) (hi : i < (z.bs.length + 63) / 64) : Does Try.prog 42 #[.pointer (some ⟨q, 0, none⟩), .int .i64 i] E ([own q [bv, .slice la z.n lc, .int .i64 p, .bool z.gone] 142]) fun r H' => r = subSl bv 1 (64 * i) (64 * i + lenN z.bs.length i) (capOf bv) ∧ H' = [own q [bv, .slice la z.n lc, .int .i64 p, .bool z.gone] 142] := by
  exact rbytes_b E q ⟨z.id, z.nm, z.bs, z.sm, z.x, p, z.gone⟩ ⟨ok.len, ok.x⟩ bv hs la lc i hi
theorem ints_get1 {l : List Nat} {j : Nat} (h : j < l.length) : (ints l)[j * 1]? = some (.int .i64 (l[j]! : Nat)) := by rw [Nat.mul_one]; exact ints_get h
theorem lcosts_y (E : Env) (b q : Nat) (z : Snd) (ok : z.Ok) (bv : Value) (hs : Sl E [] 1 bv z.bs.length (z.bs.map (.int .u8))) (la : Option Addr) (lc : Nat) (most : Nat) (hm : most ≤ 1000) (hst : z.st = 0) : Does Try.prog 43 #[.pointer (some ⟨b, 0, none⟩), .pointer (some ⟨q, 0, none⟩), .int .i64 most] E ([sndP b z, own q [bv, .slice la z.n lc, .int .i64 z.pos, .bool z.gone] 142, osl 4 1 (.slice la z.n lc) z.n (bls z.n z.x)]) fun r H' => r = .bool true ∧ H' = [sndP b z, own q [bv, .slice la z.n lc, .int .i64 z.pos, .bool z.gone] 142, osl 4 1 (.slice la z.n lc) z.n (bls z.n z.x)] := by
  have hn := ok.n
  have hL := ok.len
  have hmn := Snd.miss_ne ok hst
  have hg : z.gone = false := by
    unfold Snd.st at hst; rcases Bool.eq_false_or_eq_true z.gone with h | h
    · rw [h] at hst; simp at hst
    · exact h
  have hleft : z.left = z.cost.length := by unfold Snd.left; rw [hg, Snd.cost_len, pc_miss]; rfl
  have hcl : z.cost.length ≤ 64 := by rw [Snd.cost_len]; have := miss_le z.n z.x; omega
  have hk1 : min most z.cost.length ≤ z.cost.length := Nat.min_le_right ..
  refine Does.pure (Sl.shape hs.up) fun ⟨a0, c0, hv⟩ => ?_
  subst hv
  refine Does.go _ _ Try.func43 rfl Try.ntmps43 rfl rfl ?_
  refine Body.seq ?_
  refine Body.region ?_
  refine Ops.u (Dtu.asg (lk rfl)) rfl ?_
  refine Ops.nil ?_
  refine Then.next ?_
  refine Body.seq ?_
  refine Body.region ?_
  refine Ops.u (Dtu.mv (lk rfl)) rfl ?_
  refine Ops.u (Dtu.mv (lk rfl)) rfl ?_
  refine Ops.s (Stp.callOwn [0] rfl rfl Try.call57 (lks rfl) (fun E' le hat => costs_s E' _ _ _ (by first | assumption | omega) (by first | assumption | omega)) ?_) rfl
  rintro _ _ ⟨na14, nc14, rfl, rfl⟩
  refine Ops.u (Dtu.asg (lk rfl)) rfl ?_
  refine Ops.nil ?_
  refine Then.next ?_
  refine Body.seq ?_
  refine Body.draw mixed ?_
  refine AB.u 0 rfl (by decide +kernel) (Dtu.mv (lk rfl)) rfl ?_
  refine AB.u 1 rfl (by decide +kernel) (Dtu.nilck (lk rfl)) rfl ?_
  refine AB.u 2 rfl (by decide +kernel) (Dtu.fld fa142_0 (lk rfl)) rfl ?_
  refine AB.d 3 rfl (by decide +kernel) rfl (Det.ld Try.isAgg73 (lk rfl) (Rd.ow 2 rfl rfl)) rfl ?_
  refine AB.u 4 rfl (by decide +kernel) (Dtu.mv (lk rfl)) rfl ?_
  refine AB.u 5 rfl (by decide +kernel) (Dtu.nilck (lk rfl)) rfl ?_
  refine AB.u 6 rfl (by decide +kernel) (Dtu.fld fa142_1 (lk rfl)) rfl ?_
  refine AB.d 7 rfl (by decide +kernel) rfl (Det.ld Try.isAgg94 (lk rfl) (Rd.ow 2 rfl rfl)) rfl ?_
  refine AB.u 8 rfl (by decide +kernel) (Dtu.mv (lk rfl)) rfl ?_
  refine AB.u 9 rfl (by decide +kernel) (Dtu.nilck (lk rfl)) rfl ?_
  refine AB.u 10 rfl (by decide +kernel) (Dtu.fld fa142_2 (lk rfl)) rfl ?_
  refine AB.d 11 rfl (by decide +kernel) rfl (Det.ld Try.isAgg3 (lk rfl) (Rd.ow 2 rfl rfl)) rfl ?_
  refine AB.u 12 rfl (by decide +kernel) (Dtu.mv (lk rfl)) rfl ?_
  refine AB.u 13 rfl (by decide +kernel) (Dtu.nilck (lk rfl)) rfl ?_
  refine AB.u 14 rfl (by decide +kernel) (Dtu.fld fa142_3 (lk rfl)) rfl ?_
  refine AB.d 15 rfl (by decide +kernel) rfl (Det.ld Try.isAgg4 (lk rfl) (Rd.ow 2 rfl rfl)) rfl ?_
  refine AB.u 16 rfl (by decide +kernel) (Dtu.build ty142 pl142 (lkp rfl) rfl rfl) rfl ?_
  refine AB.s 17 rfl (by decide +kernel) (by decide +kernel) (Stp.box (lk rfl) rfl (fun b32 => ?_)) rfl
  refine AB.u 18 rfl (by decide +kernel) (Dtu.asg (lk rfl)) rfl ?_
  refine AB.done (by decide +kernel) ?_
  refine Then.next ?_
  refine Body.seq ?_
  refine Body.region ?_
  refine Ops.u (Dtu.mv (lk rfl)) rfl ?_
  refine Ops.s (Stp.callOwn [3] rfl rfl Try.call52 (lks rfl) (fun E' le hat => rleft_b E' _ _ (by first | assumption | omega) _ _ _ (by first | exact Sl.mono (by assumption) le | exact Sl.hatI hat 0 rfl | exact Sl.hatI hat 1 rfl | exact Sl.hatI hat 2 rfl | exact Sl.hatI hat 3 rfl | exact Sl.hatI hat 4 rfl | exact Sl.hatI hat 5 rfl | exact Sl.hatI hat 6 rfl | exact Sl.hatI hat 7 rfl | exact Sl.hatI hat 8 rfl | exact Sl.hatI hat 9 rfl | exact Sl.hatI hat 10 rfl | exact Sl.hatI hat 11 rfl | exact Sl.hatI hat 12 rfl | exact Sl.hatI hat 13 rfl | exact Sl.hatI hat 14 rfl | exact Sl.hatI hat 15 rfl | exact Sl.hatW hat 0 rfl | exact Sl.hatW hat 1 rfl | exact Sl.hatW hat 2 rfl | exact Sl.hatW hat 3 rfl | exact Sl.hatW hat 4 rfl | exact Sl.hatW hat 5 rfl | exact Sl.hatW hat 6 rfl | exact Sl.hatW hat 7 rfl | exact Sl.hatW hat 8 rfl | exact Sl.hatW hat 9 rfl)) ?_) rfl
  rintro _ _ ⟨rfl, rfl⟩
  refine Ops.u (Dtu.asg (lk rfl)) rfl ?_
  refine Ops.nil ?_
  refine Then.next ?_
  refine Body.seqJH (γ := Unit) rfl (fun _g => [(9, .int .i64 ((min most z.cost.length : Nat) : Int))]) (fun _g => []) (fun _g => True) ?_ ?_
  · refine Body.seq ?_
    refine Body.region ?_
    refine Ops.u (Dtu.mv (lk rfl)) rfl ?_
    refine Ops.u (Dtu.mv (lk rfl)) rfl ?_
    refine Ops.u (Dtu.gtr (lk rfl) (lk rfl)) rfl ?_
    refine Ops.nil ?_
    refine Then.next ?_
    refine Body.condP (lk rfl) (fun c37 => ?_) (fun c37 => ?_)
    · refine Body.region ?_
      refine Ops.u (Dtu.mv (lk rfl)) rfl ?_
      refine Ops.u (Dtu.asg (lk rfl)) rfl ?_
      refine Ops.nil ?_
      refine Joint.goK [0, 0, 0, 0, 0] () rfl rfl rfl ⟨int_eq (by omega), trivial⟩ rfl rfl trivial
    · refine Body.skip ?_
      refine Joint.goK [0, 0, 0, 0, 0] () rfl rfl rfl ⟨int_eq (by omega), trivial⟩ rfl rfl trivial
  rintro ⟨⟩ u0 -
  have hx : ∀ i, i < min most z.cost.length → (ints (z.cost.take (min most z.cost.length)))[i * 1]? = some (.int .i64 (lenN z.bs.length (z.cy i) : Nat)) := fun i hi => by
    rw [ints_get1 (by rw [List.length_take]; omega), ← Snd.cost_get (by omega), getElem!_pos _ i (by rw [List.length_take]; omega), getElem!_pos _ i (by omega), List.getElem_take]
  have hcy : ∀ i, z.cy i < (z.bs.length + 63) / 64 := fun i => by
    have := Snd.cy_mem hmn i
    exact (miss_mem.1 this).1
  generalize min most z.cost.length = k at *
  refine Body.seq ?_
  refine Body.seq ?_
  refine Body.region ?_
  refine Ops.u (Dtu.mv (lk rfl)) rfl ?_
  refine Ops.u (Dtu.lenS Try.underlying107 (Sl.osl 3 rfl) (lk rfl)) rfl ?_
  refine Ops.u (Dtu.mv (lk rfl)) rfl ?_
  refine Ops.u (Dtu.neq (lk rfl) (lk rfl)) rfl ?_
  refine Ops.nil ?_
  refine Then.next ?_
  refine Body.condP (lk rfl) (fun hy => absurd hy (by first | omega | assumption | decide)) (fun _ => ?_)
  refine Body.skip ?_
  refine Then.next ?_
  refine Body.seq ?_
  refine Body.seq ?_
  refine Body.region ?_
  refine Ops.u (Dtu.asg (lk rfl)) rfl ?_
  refine Ops.nil ?_
  refine Then.next ?_
  refine Body.block ?_
  refine Body.loopH (γ := Nat) rfl (fun i => [(10, .int .i64 i)]) (fun i => [(1, own b32 [.slice a0 z.bs.length c0, .slice la z.n lc, .int .i64 (z.pl i), .bool z.gone] 142)]) (fun i => i ≤ k) (fun i => k - i) (0) (by omega) ⟨rfl, trivial⟩ rfl ?_
  rintro i u1 hi
  by_cases hlt : i < k
  · have hxi := hx i hlt
    have hci := hcy i
    have hpl : z.pl (i + 1) = z.cy i + 1 := rfl
    have hcc : nx (miss z.n z.x) (z.pl i) = z.cy i := rfl
    have hch := Sl.chunkR hs hci
    generalize z.cy i = ci at *
    refine Body.seq ?_
    refine Body.seq ?_
    refine Body.region ?_
    refine Ops.u (Dtu.mv (lk rfl)) rfl ?_
    refine Ops.u (Dtu.mv (lk rfl)) rfl ?_
    refine Ops.u (Dtu.lss (lk rfl) (lk rfl)) rfl ?_
    refine Ops.nil ?_
    refine Then.next ?_
    refine Body.condP (lk rfl) (fun _ => ?_) (fun hn => absurd (by first | omega | assumption | decide) hn)
    refine Body.skip ?_
    refine Then.next ?_
    refine Body.seq ?_
    refine Body.block ?_
    refine Body.seq ?_
    refine Body.region ?_
    refine Ops.u (Dtu.mv (lk rfl)) rfl ?_
    refine Ops.s (Stp.callOwn [1] rfl rfl Try.call41 (lks rfl) (fun E' le hat => rnextP_y E' _ _ (by first | assumption | omega) _ _ _ (by first | exact Sl.mono (by assumption) le | exact Sl.hatI hat 0 rfl | exact Sl.hatI hat 1 rfl | exact Sl.hatI hat 2 rfl | exact Sl.hatI hat 3 rfl | exact Sl.hatI hat 4 rfl | exact Sl.hatI hat 5 rfl | exact Sl.hatI hat 6 rfl | exact Sl.hatI hat 7 rfl | exact Sl.hatI hat 8 rfl | exact Sl.hatI hat 9 rfl | exact Sl.hatI hat 10 rfl | exact Sl.hatI hat 11 rfl | exact Sl.hatI hat 12 rfl | exact Sl.hatI hat 13 rfl | exact Sl.hatI hat 14 rfl | exact Sl.hatI hat 15 rfl | exact Sl.hatW hat 0 rfl | exact Sl.hatW hat 1 rfl | exact Sl.hatW hat 2 rfl | exact Sl.hatW hat 3 rfl | exact Sl.hatW hat 4 rfl | exact Sl.hatW hat 5 rfl | exact Sl.hatW hat 6 rfl | exact Sl.hatW hat 7 rfl | exact Sl.hatW hat 8 rfl | exact Sl.hatW hat 9 rfl) _ _ (by first | assumption | omega)) ?_) rfl
    rintro _ _ ⟨rfl, rfl⟩
    refine Ops.u (Dtu.asg (lk rfl)) rfl ?_
    refine Ops.nil ?_
    refine Then.next ?_
    rw [hcc]
    refine Body.seq ?_
    refine Body.drawE [] mixed rfl ?_
    rintro E12' le12 -
    have hs_12 := Sl.mono hs le12
    have hch_12 := Sl.mono hch le12
    refine AE.u 0 rfl (by decide +kernel) (Dtu.mv (lk rfl)) rfl ?_
    refine AE.u 1 rfl (by decide +kernel) (Dtu.lss (lk rfl) (lk rfl)) rfl ?_
    refine AE.u 2 rfl (by decide +kernel) (Dtu.mv (lk rfl)) rfl ?_
    refine AE.decP 52 rfl (fun hy => absurd hy (by first | omega | assumption | decide)) (fun _ => ?_)
    refine AE.gu 3 rfl (by decide +kernel) rfl rfl rfl (Dtu.mv (lk rfl)) rfl ?_
    refine AE.gu 4 rfl (by decide +kernel) rfl rfl rfl (Dtu.mv (lk rfl)) rfl ?_
    refine AE.gu 5 rfl (by decide +kernel) rfl rfl rfl (Dtu.ix (i := (i)) Try.underlying107 Try.sizeOf3 (Sl.osl 3 rfl) (lk rfl) (lk rfl) (by omega) (by omega)) rfl ?_
    refine AE.gu 7 rfl (by decide +kernel) rfl rfl rfl (Dtu.mv (lk rfl)) rfl ?_
    refine AE.gu 8 rfl (by decide +kernel) rfl rfl rfl (Dtu.mv (lk rfl)) rfl ?_
    refine AE.more [6, 9] (by decide +kernel) rfl ⟨?_, ?_, trivial⟩
    · refine AEI.gd rfl rfl rfl rfl (Det.ld Try.isAgg3 (lk rfl) (Rd.sl (Sl.osl 3 rfl) (by with_reducible assumption))) rfl ?_
      refine AE.more [9] (by decide +kernel) rfl ⟨?_, trivial⟩
      refine AEI.gs rfl rfl rfl rfl (Stp.callOwn [0] rfl rfl Try.call42 (lks rfl) (fun E' le hat => rbytesP E' _ _ (by first | assumption | omega) _ (by first | exact Sl.mono (by assumption) le | exact Sl.hatI hat 0 rfl | exact Sl.hatI hat 1 rfl | exact Sl.hatI hat 2 rfl | exact Sl.hatI hat 3 rfl | exact Sl.hatI hat 4 rfl | exact Sl.hatI hat 5 rfl | exact Sl.hatI hat 6 rfl | exact Sl.hatI hat 7 rfl | exact Sl.hatI hat 8 rfl | exact Sl.hatI hat 9 rfl | exact Sl.hatI hat 10 rfl | exact Sl.hatI hat 11 rfl | exact Sl.hatI hat 12 rfl | exact Sl.hatI hat 13 rfl | exact Sl.hatI hat 14 rfl | exact Sl.hatI hat 15 rfl | exact Sl.hatW hat 0 rfl | exact Sl.hatW hat 1 rfl | exact Sl.hatW hat 2 rfl | exact Sl.hatW hat 3 rfl | exact Sl.hatW hat 4 rfl | exact Sl.hatW hat 5 rfl | exact Sl.hatW hat 6 rfl | exact Sl.hatW hat 7 rfl | exact Sl.hatW hat 8 rfl | exact Sl.hatW hat 9 rfl) _ _ _ _ (by first | assumption | omega)) ?_) rfl
      rintro _ _ ⟨rfl, rfl⟩
      refine AE.gu 10 rfl (by decide +kernel) rfl rfl rfl (Dtu.lenS Try.underlying73 (Sl.up hch_12) (lk rfl)) rfl ?_
      refine AE.gu 11 rfl (by decide +kernel) rfl rfl rfl (Dtu.neq (lk rfl) (lk rfl)) rfl ?_
      refine AE.u 12 rfl (by decide +kernel) (Dtu.pickF (lk rfl) (lk rfl)) rfl ?_
      refine AE.done (by decide +kernel) ?_
      refine Then.next ?_
      refine Body.condP (lk rfl) (fun hy => absurd hy (by first | omega | assumption | decide)) (fun _ => ?_)
      refine Body.skip ?_
      refine Blk.norm ?_
      refine Then.next ?_
      refine Body.region ?_
      refine Ops.u (Dtu.mv (lk rfl)) rfl ?_
      refine Ops.u (Dtu.add (lk rfl) (lk rfl) (w64 (by omega) (by omega))) rfl ?_
      refine Ops.u (Dtu.asg (lk rfl)) rfl ?_
      refine Ops.nil ?_
      refine Round.goK [1, 0, 0, 0, 0] (i + 1) rfl rfl rfl ⟨rfl, trivial⟩ rfl (by (try dsimp only); rw [hpl]; rfl) (by omega) (by omega)
    · refine AEI.gs rfl rfl rfl rfl (Stp.callOwn [0] rfl rfl Try.call42 (lks rfl) (fun E' le hat => rbytesP E' _ _ (by first | assumption | omega) _ (by first | exact Sl.mono (by assumption) le | exact Sl.hatI hat 0 rfl | exact Sl.hatI hat 1 rfl | exact Sl.hatI hat 2 rfl | exact Sl.hatI hat 3 rfl | exact Sl.hatI hat 4 rfl | exact Sl.hatI hat 5 rfl | exact Sl.hatI hat 6 rfl | exact Sl.hatI hat 7 rfl | exact Sl.hatI hat 8 rfl | exact Sl.hatI hat 9 rfl | exact Sl.hatI hat 10 rfl | exact Sl.hatI hat 11 rfl | exact Sl.hatI hat 12 rfl | exact Sl.hatI hat 13 rfl | exact Sl.hatI hat 14 rfl | exact Sl.hatI hat 15 rfl | exact Sl.hatW hat 0 rfl | exact Sl.hatW hat 1 rfl | exact Sl.hatW hat 2 rfl | exact Sl.hatW hat 3 rfl | exact Sl.hatW hat 4 rfl | exact Sl.hatW hat 5 rfl | exact Sl.hatW hat 6 rfl | exact Sl.hatW hat 7 rfl | exact Sl.hatW hat 8 rfl | exact Sl.hatW hat 9 rfl) _ _ _ _ (by first | assumption | omega)) ?_) rfl
      rintro _ _ ⟨rfl, rfl⟩
      refine AE.gu 10 rfl (by decide +kernel) rfl rfl rfl (Dtu.lenS Try.underlying73 (Sl.up hch_12) (lk rfl)) rfl ?_
      refine AE.more [6] (by decide +kernel) rfl ⟨?_, trivial⟩
      refine AEI.gd rfl rfl rfl rfl (Det.ld Try.isAgg3 (lk rfl) (Rd.sl (Sl.osl 3 rfl) (by with_reducible assumption))) rfl ?_
      refine AE.gu 11 rfl (by decide +kernel) rfl rfl rfl (Dtu.neq (lk rfl) (lk rfl)) rfl ?_
      refine AE.u 12 rfl (by decide +kernel) (Dtu.pickF (lk rfl) (lk rfl)) rfl ?_
      refine AE.done (by decide +kernel) ?_
      refine Then.next ?_
      refine Body.condP (lk rfl) (fun hy => absurd hy (by first | omega | assumption | decide)) (fun _ => ?_)
      refine Body.skip ?_
      refine Blk.norm ?_
      refine Then.next ?_
      refine Body.region ?_
      refine Ops.u (Dtu.mv (lk rfl)) rfl ?_
      refine Ops.u (Dtu.add (lk rfl) (lk rfl) (w64 (by omega) (by omega))) rfl ?_
      refine Ops.u (Dtu.asg (lk rfl)) rfl ?_
      refine Ops.nil ?_
      refine Round.goK [1, 0, 0, 0, 0] (i + 1) rfl rfl rfl ⟨rfl, trivial⟩ rfl (by (try dsimp only); rw [hpl]; rfl) (by omega) (by omega)
  · obtain rfl : i = k := by omega
    refine Body.seq ?_
    refine Body.seq ?_
    refine Body.region ?_
    refine Ops.u (Dtu.mv (lk rfl)) rfl ?_
    refine Ops.u (Dtu.mv (lk rfl)) rfl ?_
    refine Ops.u (Dtu.lss (lk rfl) (lk rfl)) rfl ?_
    refine Ops.nil ?_
    refine Then.next ?_
    refine Body.condP (lk rfl) (fun hy => absurd hy (by first | omega | assumption | decide)) (fun _ => ?_)
    refine Body.exit ?_
    refine Then.exit ?_
    refine Round.exit ?_
    refine Blk.here ?_
    refine Then.next ?_
    refine Body.seq ?_
    refine Body.region ?_
    refine Ops.u (Dtu.asg (lk rfl)) rfl ?_
    refine Ops.nil ?_
    refine Then.next ?_
    refine Body.ret ?_
    exact ⟨.inr rfl, _, pk [2, 0, 2] rfl, rfl, rfl⟩
theorem Snd.left_no {z : Snd} (ok : z.Ok) (h : ¬ z.st = 0) : z.left = 0 := by
  rcases Bool.eq_false_or_eq_true z.gone with hg | hg
  · unfold Snd.left; rw [hg]; rfl
  · refine (Snd.left_st ok hg).2 ?_
    unfold Snd.st at h ⊢
    rw [hg] at h ⊢
    cases hf : z.full <;> rw [hf] at h <;> simp at h ⊢
theorem lcosts_n (E : Env) (b q : Nat) (z : Snd) (ok : z.Ok) (bv : Value) (hs : Sl E [] 1 bv z.bs.length (z.bs.map (.int .u8))) (la : Option Addr) (lc : Nat) (most : Nat) (hm : most ≤ 1000) (hst : ¬ z.st = 0) : Does Try.prog 43 #[.pointer (some ⟨b, 0, none⟩), .pointer (some ⟨q, 0, none⟩), .int .i64 most] E ([sndP b z, own q [bv, .slice la z.n lc, .int .i64 z.pos, .bool z.gone] 142, osl 4 1 (.slice la z.n lc) z.n (bls z.n z.x)]) fun r H' => r = .bool true ∧ H' = [sndP b z, own q [bv, .slice la z.n lc, .int .i64 z.pos, .bool z.gone] 142, osl 4 1 (.slice la z.n lc) z.n (bls z.n z.x)] := by
  have hleft := Snd.left_no ok hst
  refine Does.pure (Sl.shape hs.up) fun ⟨a0, c0, hv⟩ => ?_
  subst hv
  refine Does.go _ _ Try.func43 rfl Try.ntmps43 rfl rfl ?_
  refine Body.seq ?_
  refine Body.region ?_
  refine Ops.u (Dtu.asg (lk rfl)) rfl ?_
  refine Ops.nil ?_
  refine Then.next ?_
  refine Body.seq ?_
  refine Body.region ?_
  refine Ops.u (Dtu.mv (lk rfl)) rfl ?_
  refine Ops.u (Dtu.mv (lk rfl)) rfl ?_
  refine Ops.s (Stp.callOwn [0] rfl rfl Try.call57 (lks rfl) (fun E' le hat => costs_sn E' _ _ _ (by first | assumption | omega)) ?_) rfl
  rintro _ _ ⟨rfl, rfl⟩
  refine Ops.u (Dtu.asg (lk rfl)) rfl ?_
  refine Ops.nil ?_
  refine Then.next ?_
  refine Body.seq ?_
  refine Body.draw mixed ?_
  refine AB.u 0 rfl (by decide +kernel) (Dtu.mv (lk rfl)) rfl ?_
  refine AB.u 1 rfl (by decide +kernel) (Dtu.nilck (lk rfl)) rfl ?_
  refine AB.u 2 rfl (by decide +kernel) (Dtu.fld fa142_0 (lk rfl)) rfl ?_
  refine AB.d 3 rfl (by decide +kernel) rfl (Det.ld Try.isAgg73 (lk rfl) (Rd.ow 1 rfl rfl)) rfl ?_
  refine AB.u 4 rfl (by decide +kernel) (Dtu.mv (lk rfl)) rfl ?_
  refine AB.u 5 rfl (by decide +kernel) (Dtu.nilck (lk rfl)) rfl ?_
  refine AB.u 6 rfl (by decide +kernel) (Dtu.fld fa142_1 (lk rfl)) rfl ?_
  refine AB.d 7 rfl (by decide +kernel) rfl (Det.ld Try.isAgg94 (lk rfl) (Rd.ow 1 rfl rfl)) rfl ?_
  refine AB.u 8 rfl (by decide +kernel) (Dtu.mv (lk rfl)) rfl ?_
  refine AB.u 9 rfl (by decide +kernel) (Dtu.nilck (lk rfl)) rfl ?_
  refine AB.u 10 rfl (by decide +kernel) (Dtu.fld fa142_2 (lk rfl)) rfl ?_
  refine AB.d 11 rfl (by decide +kernel) rfl (Det.ld Try.isAgg3 (lk rfl) (Rd.ow 1 rfl rfl)) rfl ?_
  refine AB.u 12 rfl (by decide +kernel) (Dtu.mv (lk rfl)) rfl ?_
  refine AB.u 13 rfl (by decide +kernel) (Dtu.nilck (lk rfl)) rfl ?_
  refine AB.u 14 rfl (by decide +kernel) (Dtu.fld fa142_3 (lk rfl)) rfl ?_
  refine AB.d 15 rfl (by decide +kernel) rfl (Det.ld Try.isAgg4 (lk rfl) (Rd.ow 1 rfl rfl)) rfl ?_
  refine AB.u 16 rfl (by decide +kernel) (Dtu.build ty142 pl142 (lkp rfl) rfl rfl) rfl ?_
  refine AB.s 17 rfl (by decide +kernel) (by decide +kernel) (Stp.box (lk rfl) rfl (fun b32 => ?_)) rfl
  refine AB.u 18 rfl (by decide +kernel) (Dtu.asg (lk rfl)) rfl ?_
  refine AB.done (by decide +kernel) ?_
  refine Then.next ?_
  refine Body.seq ?_
  refine Body.region ?_
  refine Ops.u (Dtu.mv (lk rfl)) rfl ?_
  refine Ops.s (Stp.callOwn [2] rfl rfl Try.call52 (lks rfl) (fun E' le hat => rleft_b E' _ _ (by first | assumption | omega) _ _ _ (by first | exact Sl.mono (by assumption) le | exact Sl.hatI hat 0 rfl | exact Sl.hatI hat 1 rfl | exact Sl.hatI hat 2 rfl | exact Sl.hatI hat 3 rfl | exact Sl.hatI hat 4 rfl | exact Sl.hatI hat 5 rfl | exact Sl.hatI hat 6 rfl | exact Sl.hatI hat 7 rfl | exact Sl.hatI hat 8 rfl | exact Sl.hatI hat 9 rfl | exact Sl.hatI hat 10 rfl | exact Sl.hatI hat 11 rfl | exact Sl.hatI hat 12 rfl | exact Sl.hatI hat 13 rfl | exact Sl.hatI hat 14 rfl | exact Sl.hatI hat 15 rfl | exact Sl.hatW hat 0 rfl | exact Sl.hatW hat 1 rfl | exact Sl.hatW hat 2 rfl | exact Sl.hatW hat 3 rfl | exact Sl.hatW hat 4 rfl | exact Sl.hatW hat 5 rfl | exact Sl.hatW hat 6 rfl | exact Sl.hatW hat 7 rfl | exact Sl.hatW hat 8 rfl | exact Sl.hatW hat 9 rfl)) ?_) rfl
  rintro _ _ ⟨rfl, rfl⟩
  refine Ops.u (Dtu.asg (lk rfl)) rfl ?_
  refine Ops.nil ?_
  refine Then.next ?_
  refine Body.seq ?_
  refine Body.seq ?_
  refine Body.region ?_
  refine Ops.u (Dtu.mv (lk rfl)) rfl ?_
  refine Ops.u (Dtu.mv (lk rfl)) rfl ?_
  refine Ops.u (Dtu.gtr (lk rfl) (lk rfl)) rfl ?_
  refine Ops.nil ?_
  refine Then.next ?_
  refine Body.condP (lk rfl) (fun hy => absurd hy (by first | omega | assumption | decide)) (fun _ => ?_)
  refine Body.skip ?_
  refine Then.next ?_
  refine Body.seq ?_
  refine Body.seq ?_
  refine Body.region ?_
  refine Ops.u (Dtu.mv (lk rfl)) rfl ?_
  refine Ops.u (Dtu.len Try.underlying107 (lk rfl)) rfl ?_
  refine Ops.u (Dtu.mv (lk rfl)) rfl ?_
  refine Ops.u (Dtu.neq (lk rfl) (lk rfl)) rfl ?_
  refine Ops.nil ?_
  refine Then.next ?_
  refine Body.condP (lk rfl) (fun hy => absurd hy (by first | omega | assumption | decide)) (fun _ => ?_)
  refine Body.skip ?_
  refine Then.next ?_
  refine Body.seq ?_
  refine Body.seq ?_
  refine Body.region ?_
  refine Ops.u (Dtu.asg (lk rfl)) rfl ?_
  refine Ops.nil ?_
  refine Then.next ?_
  refine Body.block ?_
  refine Body.loopH (γ := Unit) rfl (fun _s => [(10, .int .i64 0)]) (fun _s => []) (fun _s => True) (fun _s => 0) (()) (trivial) ⟨rfl, trivial⟩ rfl ?_
  rintro ⟨⟩ u0 -
  refine Body.seq ?_
  refine Body.seq ?_
  refine Body.region ?_
  refine Ops.u (Dtu.mv (lk rfl)) rfl ?_
  refine Ops.u (Dtu.mv (lk rfl)) rfl ?_
  refine Ops.u (Dtu.lss (lk rfl) (lk rfl)) rfl ?_
  refine Ops.nil ?_
  refine Then.next ?_
  refine Body.condP (lk rfl) (fun hy => absurd hy (by first | omega | assumption | decide)) (fun _ => ?_)
  refine Body.exit ?_
  refine Then.exit ?_
  refine Round.exit ?_
  refine Blk.here ?_
  refine Then.next ?_
  refine Body.seq ?_
  refine Body.region ?_
  refine Ops.u (Dtu.asg (lk rfl)) rfl ?_
  refine Ops.nil ?_
  refine Then.next ?_
  refine Body.ret ?_
  exact ⟨.inr rfl, _, pk [2, 0, 1] rfl, rfl, rfl⟩
theorem lcosts_ok (E : Env) (b q : Nat) (z : Snd) (ok : z.Ok) (bv : Value) (hs : Sl E [] 1 bv z.bs.length (z.bs.map (.int .u8))) (la : Option Addr) (lc : Nat) (most : Nat) (hm : most ≤ 1000) : Does Try.prog 43 #[.pointer (some ⟨b, 0, none⟩), .pointer (some ⟨q, 0, none⟩), .int .i64 most] E ([sndP b z, own q [bv, .slice la z.n lc, .int .i64 z.pos, .bool z.gone] 142, osl 4 1 (.slice la z.n lc) z.n (bls z.n z.x)]) fun r H' => r = .bool true ∧ H' = [sndP b z, own q [bv, .slice la z.n lc, .int .i64 z.pos, .bool z.gone] 142, osl 4 1 (.slice la z.n lc) z.n (bls z.n z.x)] := by
  by_cases hst : z.st = 0
  · exact lcosts_y E b q z ok bv hs la lc most hm hst
  · exact lcosts_n E b q z ok bv hs la lc most hm hst
end Go.Proofs.Ytpmapedhigjalaa
end
section
/- the document's sender, told by a sender's state. -/
namespace Go.Proofs.Ytpmapedhigjalaa
set_option maxRecDepth 100000
set_option maxHeartbeats 4000000
set_option linter.unusedVariables false
set_option linter.unusedSimpArgs false
open Go.Sx

theorem Snd.know_n (z : Snd) (n x : Int) : (z.know n x).n = z.n := by unfold Snd.know; split <;> rfl
theorem blZ_len {n x : Int} (h : bmR n x = true) : ((blZ n x).length : Int) = n := by
  rw [blZ_r h, bl_len]; have := bmR.rng h; omega
theorem blZ_le (n x : Int) : (blZ n x).length ≤ 64 := by
  unfold blZ; split
  · rw [bl_len]; omega
  · simp
theorem ask_len (n x : Int) (m : Int) (g : Bool) : askF (bmR n x) (blZ n x).length m g = askF (bmR n x) n m g := by
  cases h : bmR n x
  · simp [askF]
  · rw [blZ_len h]
theorem bls_bl (n x : Nat) : (bl n x).map Value.bool = bls n x := rfl
theorem rknow_s (E : Env) (q : Nat) (z : Snd) (ok : z.Ok) (bv : Value) (la : Option Addr) (lc : Nat) (n x : Int) (hx : U64 x) (a2 : Option Addr) (c2 : Nat) (alone : Bool) (hl : Sl E [] 1 (.slice a2 (blZ n x).length c2) (blZ n x).length ((blZ n x).map .bool)) : Does Try.prog 47 #[.pointer (some ⟨q, 0, none⟩), .slice a2 (blZ n x).length c2, .bool (bmR n x), .bool alone] E ([own q [bv, .slice la z.n lc, .int .i64 z.pos, .bool z.gone] 142, osl 4 1 (.slice la z.n lc) z.n (bls z.n z.x)]) fun r H' => r = .int .i64 (askF (bmR n x) n z.n z.gone) ∧ H' = [own q [bv, .slice la (if alone then z.anew n x else z.know n x).n lc, .int .i64 (if alone then z.anew n x else z.know n x).pos, .bool (if alone then z.anew n x else z.know n x).gone] 142, osl 4 1 (.slice la (if alone then z.anew n x else z.know n x).n lc) (if alone then z.anew n x else z.know n x).n (bls (if alone then z.anew n x else z.know n x).n (if alone then z.anew n x else z.know n x).x)] := by
  by_cases h : askF (bmR n x) n z.n z.gone = 0
  · obtain ⟨h1, h2, h3⟩ := askF_0 h
    have e1 : z.know n x = ⟨z.id, z.nm, z.bs, z.sm, z.x ||| x.toNat, z.pos, z.gone⟩ := by rw [Snd.know, if_pos h]
    have e2 : z.anew n x = ⟨z.id, z.nm, z.bs, z.sm, x.toNat, 0, z.gone⟩ := by rw [Snd.anew, if_pos h]
    have hb : blZ n x = bl z.n x.toNat := by rw [blZ_r h1, h2, Int.toNat_natCast]
    rw [h, e1, e2, h1]
    rw [hb, bl_len] at hl ⊢
    rw [bls_bl] at hl
    have hu : U64 (x.toNat : Nat) := by have h0 := hx.1; have h5 := hx.2; exact ⟨by omega, by omega⟩
    have := rknow_y E q z ok bv la lc z.n x.toNat hu (.slice a2 z.n c2) hl alone h3
    cases alone
    · exact this
    · exact this
  · have e1 : z.know n x = z := by rw [Snd.know, if_neg h]
    have e2 : z.anew n x = z := by rw [Snd.anew, if_neg h]
    have hz := ok.n
    rw [e1, e2, ← ask_len]
    have hk := fun E' => rknow_n E' q z bv la lc (blZ n x).length a2 c2 (bmR n x) alone (blZ_le n x) hz (by rw [ask_len]; exact h)
    refine Does.pst (Does.frm (Hc := [own q [bv, .slice la z.n lc, .int .i64 z.pos, .bool z.gone] 142]) (Hf := [osl 4 1 (.slice la z.n lc) z.n (bls z.n z.x)]) fun E' _ _ => hk E') ?_
    rintro r H' ⟨A, ⟨rfl, rfl⟩, rfl⟩
    cases alone
    · exact ⟨_, fun w s => s, rfl, rfl⟩
    · exact ⟨_, fun w s => s, rfl, rfl⟩
theorem rcancel_s (E : Env) (q : Nat) (z : Snd) (ok : z.Ok) (bv : Value) (la : Option Addr) (lc : Nat) (hL : Sl E [] 1 (.slice la z.n lc) z.n (bls z.n z.x)) : Does Try.prog 50 #[.pointer (some ⟨q, 0, none⟩)] E ([own q [bv, .slice la z.n lc, .int .i64 z.pos, .bool z.gone] 142]) fun r H' => r = .int .i64 (if z.st = 0 then 0 else 7) ∧ H' = [own q [bv, .slice la z.n lc, .int .i64 z.cancel.pos, .bool z.cancel.gone] 142] := by
  have := rcancel_b E q z ok bv la lc hL
  by_cases h : z.st = 0
  · have e1 : z.cancel = ⟨z.id, z.nm, z.bs, z.sm, z.x, z.pos, true⟩ := by rw [Snd.cancel, if_pos h]
    rw [e1]
    rw [if_pos h, if_pos h] at this
    rw [if_pos h]
    exact this
  · have e1 : z.cancel = z := by rw [Snd.cancel, if_neg h]
    rw [e1]
    rw [if_neg h, if_neg h] at this
    rw [if_neg h]
    exact this
end Go.Proofs.Ytpmapedhigjalaa
end
section
/- == of sums and of descriptions. -/
namespace Go.Proofs.Ytpmapedhigjalaa
set_option maxRecDepth 100000
set_option maxHeartbeats 4000000
set_option linter.unusedVariables false
set_option linter.unusedSimpArgs false
open Go.Sx


def eqS (s t : Nat → Int) : Bool := (List.range 32).all fun i => s i == t i
theorem eqS_same (s : Nat → Int) : eqS s s = true := by simp [eqS]
theorem eqItems_u8 {d : Nat} {e c : TypeId} {k : IntKind} {xs ys : List Value} {s t : Nat → Int} (hu : Try.prog.underlying e = some (.int k)) (hag : ∀ w, (isAgg e).run Try.prog w = .ok false w) (hx : ∀ i, i < 32 → xs[i * c]? = some (.int k (s i))) (hy : ∀ i, i < 32 → ys[i * c]? = some (.int k (t i))) (w : World) :
    ∀ is : List Nat, (∀ i ∈ is, i < 32) → (Op.eqItems (d + 1) e c xs.toArray ys.toArray is).run Try.prog w = .ok (is.all fun i => s i == t i) w
  | [], _ => by simp [Op.eqItems]
  | i :: is, h => by
    have hi := h i (by simp)
    have p1 := part_v (P := Try.prog) hag (hx i hi) w
    have p2 := part_v (P := Try.prog) hag (hy i hi) w
    have p3 := EqD.int (P := Try.prog) (d := d) (T := e) (k := k) (a := s i) (b := t i) hu w
    simp only [Op.eqItems, Sem.run_bind, p1, p2, p3, Result.andThen_ok]
    have ih := eqItems_u8 (d := d) hu hag hx hy w is fun j hj => h j (by simp [hj])
    cases hb : s i == t i
    · simp [List.all_cons, hb]
    · simp only [Bool.not_true, Bool.false_eq_true, if_false, List.all_cons, hb, Bool.true_and]; exact ih
theorem cells_u8 : ∃ i, Try.prog.info? 5 = some i := by
  have : (Try.prog.info? 5).isSome = true := by kernel_rfl
  exact Option.isSome_iff_exists.1 this
theorem EqD.sum {d : Nat} (s t : Nat → Int) : EqD Try.prog (d + 2) 80 (.agg (.int .u8 (s 0) :: .int .u8 (s 1) :: .int .u8 (s 2) :: .int .u8 (s 3) :: .int .u8 (s 4) :: .int .u8 (s 5) :: .int .u8 (s 6) :: .int .u8 (s 7) :: .int .u8 (s 8) :: .int .u8 (s 9) :: .int .u8 (s 10) :: .int .u8 (s 11) :: .int .u8 (s 12) :: .int .u8 (s 13) :: .int .u8 (s 14) :: .int .u8 (s 15) :: .int .u8 (s 16) :: .int .u8 (s 17) :: .int .u8 (s 18) :: .int .u8 (s 19) :: .int .u8 (s 20) :: .int .u8 (s 21) :: .int .u8 (s 22) :: .int .u8 (s 23) :: .int .u8 (s 24) :: .int .u8 (s 25) :: .int .u8 (s 26) :: .int .u8 (s 27) :: .int .u8 (s 28) :: .int .u8 (s 29) :: .int .u8 (s 30) :: .int .u8 (s 31) :: [] : List Value).toArray) (.agg (.int .u8 (t 0) :: .int .u8 (t 1) :: .int .u8 (t 2) :: .int .u8 (t 3) :: .int .u8 (t 4) :: .int .u8 (t 5) :: .int .u8 (t 6) :: .int .u8 (t 7) :: .int .u8 (t 8) :: .int .u8 (t 9) :: .int .u8 (t 10) :: .int .u8 (t 11) :: .int .u8 (t 12) :: .int .u8 (t 13) :: .int .u8 (t 14) :: .int .u8 (t 15) :: .int .u8 (t 16) :: .int .u8 (t 17) :: .int .u8 (t 18) :: .int .u8 (t 19) :: .int .u8 (t 20) :: .int .u8 (t 21) :: .int .u8 (t 22) :: .int .u8 (t 23) :: .int .u8 (t 24) :: .int .u8 (t 25) :: .int .u8 (t 26) :: .int .u8 (t 27) :: .int .u8 (t 28) :: .int .u8 (t 29) :: .int .u8 (t 30) :: .int .u8 (t 31) :: [] : List Value).toArray) (eqS s t) := fun w => by
  obtain ⟨i, hi⟩ := cells_u8
  have hc : Try.prog.cellsOf 5 = 1 := by
    have a := run_sizeOf w hi
    have b := Try.sizeOf5 w
    rw [a] at b
    injection b
  have hu : Try.prog.underlying 80 = some (.array 32 5) := Try.underlying80
  rw [show d + 2 = (d + 1) + 1 from rfl, run_equalIn_array w (d + 1) _ _ hu hi, hc]
  have key : ∀ (s : Nat → Int) (l : List Value), l = (List.range 32).map (fun i => Value.int .u8 (s i)) → ∀ i, i < 32 → l[i * 1]? = some (.int .u8 (s i)) := by
    rintro s l rfl i hi
    rw [Nat.mul_one, List.getElem?_map, List.getElem?_range hi]; rfl
  exact eqItems_u8 Try.underlying5 Try.isAgg5 (key s _ rfl) (key t _ rfl) w _ fun i hi => by simpa using hi
theorem eq80 (s t : Nat → Int) : EqAgg Try.prog 80 (.int .u8 (s 0) :: .int .u8 (s 1) :: .int .u8 (s 2) :: .int .u8 (s 3) :: .int .u8 (s 4) :: .int .u8 (s 5) :: .int .u8 (s 6) :: .int .u8 (s 7) :: .int .u8 (s 8) :: .int .u8 (s 9) :: .int .u8 (s 10) :: .int .u8 (s 11) :: .int .u8 (s 12) :: .int .u8 (s 13) :: .int .u8 (s 14) :: .int .u8 (s 15) :: .int .u8 (s 16) :: .int .u8 (s 17) :: .int .u8 (s 18) :: .int .u8 (s 19) :: .int .u8 (s 20) :: .int .u8 (s 21) :: .int .u8 (s 22) :: .int .u8 (s 23) :: .int .u8 (s 24) :: .int .u8 (s 25) :: .int .u8 (s 26) :: .int .u8 (s 27) :: .int .u8 (s 28) :: .int .u8 (s 29) :: .int .u8 (s 30) :: .int .u8 (s 31) :: []) (.int .u8 (t 0) :: .int .u8 (t 1) :: .int .u8 (t 2) :: .int .u8 (t 3) :: .int .u8 (t 4) :: .int .u8 (t 5) :: .int .u8 (t 6) :: .int .u8 (t 7) :: .int .u8 (t 8) :: .int .u8 (t 9) :: .int .u8 (t 10) :: .int .u8 (t 11) :: .int .u8 (t 12) :: .int .u8 (t 13) :: .int .u8 (t 14) :: .int .u8 (t 15) :: .int .u8 (t 16) :: .int .u8 (t 17) :: .int .u8 (t 18) :: .int .u8 (t 19) :: .int .u8 (t 20) :: .int .u8 (t 21) :: .int .u8 (t 22) :: .int .u8 (t 23) :: .int .u8 (t 24) :: .int .u8 (t 25) :: .int .u8 (t 26) :: .int .u8 (t 27) :: .int .u8 (t 28) :: .int .u8 (t 29) :: .int .u8 (t 30) :: .int .u8 (t 31) :: []) (eqS s t) := EqAgg.mk fun k => EqD.sum s t
theorem eqGuard80 : Try.prog.eqGuardType Try.prog.depth 80 = false := by kernel_rfl
theorem EqD.str {d : Nat} {T : TypeId} {a b : ByteArray} (h : Try.prog.underlying T = some .string) : EqD Try.prog (d + 1) T (.string a) (.string b) (decide (a = b)) := fun w => by
  rw [run_equalIn_string w d T a b h]
  congr 1
  rw [Bool.eq_iff_iff]
  simp [ByteArray.toList_eq]
  exact ⟨fun h => by cases a; cases b; simp at h; simp [h], fun h => by rw [h]⟩
theorem eq82 (id id2 : Int) (nm nm2 : ByteArray) (sz sz2 : Int) (s t : Nat → Int) : EqAgg Try.prog 82 (.int .u64 id :: .string nm :: .int .i64 sz :: .int .u8 (s 0) :: .int .u8 (s 1) :: .int .u8 (s 2) :: .int .u8 (s 3) :: .int .u8 (s 4) :: .int .u8 (s 5) :: .int .u8 (s 6) :: .int .u8 (s 7) :: .int .u8 (s 8) :: .int .u8 (s 9) :: .int .u8 (s 10) :: .int .u8 (s 11) :: .int .u8 (s 12) :: .int .u8 (s 13) :: .int .u8 (s 14) :: .int .u8 (s 15) :: .int .u8 (s 16) :: .int .u8 (s 17) :: .int .u8 (s 18) :: .int .u8 (s 19) :: .int .u8 (s 20) :: .int .u8 (s 21) :: .int .u8 (s 22) :: .int .u8 (s 23) :: .int .u8 (s 24) :: .int .u8 (s 25) :: .int .u8 (s 26) :: .int .u8 (s 27) :: .int .u8 (s 28) :: .int .u8 (s 29) :: .int .u8 (s 30) :: .int .u8 (s 31) :: []) (.int .u64 id2 :: .string nm2 :: .int .i64 sz2 :: .int .u8 (t 0) :: .int .u8 (t 1) :: .int .u8 (t 2) :: .int .u8 (t 3) :: .int .u8 (t 4) :: .int .u8 (t 5) :: .int .u8 (t 6) :: .int .u8 (t 7) :: .int .u8 (t 8) :: .int .u8 (t 9) :: .int .u8 (t 10) :: .int .u8 (t 11) :: .int .u8 (t 12) :: .int .u8 (t 13) :: .int .u8 (t 14) :: .int .u8 (t 15) :: .int .u8 (t 16) :: .int .u8 (t 17) :: .int .u8 (t 18) :: .int .u8 (t 19) :: .int .u8 (t 20) :: .int .u8 (t 21) :: .int .u8 (t 22) :: .int .u8 (t 23) :: .int .u8 (t 24) :: .int .u8 (t 25) :: .int .u8 (t 26) :: .int .u8 (t 27) :: .int .u8 (t 28) :: .int .u8 (t 29) :: .int .u8 (t 30) :: .int .u8 (t 31) :: []) ((id == id2) && (decide (nm = nm2) && ((sz == sz2) && (eqS s t && true)))) :=
  EqAgg.mk fun k => EqD.struct Try.underlying82 (by kernel_rfl) (FE.cons rfl (part_v Try.isAgg72 rfl) (part_v Try.isAgg72 rfl) (EqD.int Try.underlying72)
    (FE.cons rfl (part_v Try.isAgg9 rfl) (part_v Try.isAgg9 rfl) (EqD.str Try.underlying9)
      (FE.cons rfl (part_v Try.isAgg3 rfl) (part_v Try.isAgg3 rfl) (EqD.int Try.underlying3)
        (FE.cons rfl (part_a Try.isAgg80 Try.sizeOf80 rfl) (part_a Try.isAgg80 Try.sizeOf80 rfl) (EqD.sum s t) FE.nil))))
theorem eqGuard82 : Try.prog.eqGuardType Try.prog.depth 82 = false := by kernel_rfl
end Go.Proofs.Ytpmapedhigjalaa
end
