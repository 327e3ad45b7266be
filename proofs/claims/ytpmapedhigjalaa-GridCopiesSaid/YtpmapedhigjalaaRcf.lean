/- QNc: GrrG, GrrH, OpenG, GrrI, GrrK, OpenC, CopiesP. -/
import Derived.Test.YtpmapedhigjalaaRca
import Derived.Test.YtpmapedhigjalaaRcb
import Derived.Test.YtpmapedhigjalaaRcc
import Derived.Test.YtpmapedhigjalaaRcd
import Derived.Test.YtpmapedhigjalaaRce
section
/- A grid and the document's: calls of both. -/
namespace Go.Proofs.Ytpmapedhigjalaa
set_option maxRecDepth 100000
set_option linter.unusedVariables false
set_option linter.unusedSimpArgs false
open Go.Sx

def Gd.op (g : Gd) (o : GOp) : Gd :=
  if o.k = 0 then g.put o.a o.b o.c else if o.k = 1 then g.fill o.a o.b o.n o.c else if o.k = 2 then g.up o.a o.b o.n o.c else if o.k = 3 then g.down o.a o.b o.n o.c
  else if o.k = 4 then g.ins o.a o.b o.n o.c else if o.k = 5 then g.del o.a o.b o.n o.c else if o.k = 6 then g.rsz o.a o.b o.c else g
theorem flat_congr {g h : Gd} (e1 : g.r = h.r) (e2 : g.c = h.c) (e : ∀ i k, i < g.r → k < g.c → g.f i k = h.f i k) : g.flat = h.flat := by
  refine flat_eq (by rw [flat_len', e1, e2]) fun j hj => ?_
  rw [← e1, ← e2] at hj
  rw [flat_at hj]
  rw [← e2]
  exact e _ _ (div_lt' hj) (Nat.mod_lt _ (Nat.pos_of_ne_zero fun h0 => by rw [h0, Nat.mul_zero] at hj; omega))
def by17 (n : Int) : Int := if 60 < n then 60 else if 0 < n then n else 0
theorem mv_up {g : Gd} (ok : g.Ok) {t u n : Int} {x : Cell} (h : g.rows t u n) : (g.mv t u (by17 n) x).flat = (g.up t u n x).flat := by
  have := ok.r
  rw [Gd.up, if_pos h]
  obtain ⟨h1, h2, h3, h4⟩ := h
  refine flat_congr rfl rfl fun i k hi hk => ?_
  show (if _ then _ else _) = (if _ then _ else _)
  have hi : i < g.r := hi
  by_cases hA : t ≤ (i : Int) ∧ (i : Int) ≤ u
  · rw [if_pos hA, if_pos hA]
    by_cases hB : (i : Int) + n ≤ u
    · have e : by17 n = n := by unfold by17; split <;> (try split) <;> omega
      rw [e, if_pos hB, if_pos (by omega)]
    · rw [if_neg hB, if_neg (by unfold by17; split <;> (try split) <;> omega)]
  · rw [if_neg hA, if_neg hA]
theorem mv_down {g : Gd} (ok : g.Ok) {t u n : Int} {x : Cell} (h : g.rows t u n) : (g.mv t u (0 - by17 n) x).flat = (g.down t u n x).flat := by
  have := ok.r
  rw [Gd.down, if_pos h]
  obtain ⟨h1, h2, h3, h4⟩ := h
  refine flat_congr rfl rfl fun i k hi hk => ?_
  show (if _ then _ else _) = (if _ then _ else _)
  have hi : i < g.r := hi
  by_cases hA : t ≤ (i : Int) ∧ (i : Int) ≤ u
  · rw [if_pos hA, if_pos hA]
    by_cases hB : t ≤ (i : Int) - n
    · have e : by17 n = n := by unfold by17; split <;> (try split) <;> omega
      rw [e, if_pos hB, if_pos (by omega), show (i : Int) + (0 - n) = i - n by omega]
    · rw [if_neg hB, if_neg (by unfold by17; split <;> (try split) <;> omega)]
  · rw [if_neg hA, if_neg hA]
theorem sh_ins {g : Gd} (ok : g.Ok) {t u n : Int} {x : Cell} (h : g.has t u ∧ 0 ≤ n) : (g.sh t u (0 - by17 n) x).flat = (g.ins t u n x).flat := by
  have := ok.c
  rw [Gd.ins, if_pos h]
  obtain ⟨⟨h1, h2, h3, h4⟩, h5⟩ := h
  refine flat_congr rfl rfl fun i k hi hk => ?_
  show (if _ then _ else _) = (if _ then _ else _)
  have hk : k < g.c := hk
  by_cases hA : (i : Int) = t ∧ u ≤ (k : Int)
  · rw [if_pos hA, if_pos hA]
    by_cases hB : u ≤ (k : Int) - n
    · have e : by17 n = n := by unfold by17; split <;> (try split) <;> omega
      rw [e, if_pos hB, if_pos (by omega), show (k : Int) + (0 - n) = k - n by omega]
    · rw [if_neg hB, if_neg (by unfold by17; split <;> (try split) <;> omega)]
  · rw [if_neg hA, if_neg hA]
theorem sh_del {g : Gd} (ok : g.Ok) {t u n : Int} {x : Cell} (h : g.has t u ∧ 0 ≤ n) : (g.sh t u (by17 n) x).flat = (g.del t u n x).flat := by
  have := ok.c
  rw [Gd.del, if_pos h]
  obtain ⟨⟨h1, h2, h3, h4⟩, h5⟩ := h
  refine flat_congr rfl rfl fun i k hi hk => ?_
  show (if _ then _ else _) = (if _ then _ else _)
  have hk : k < g.c := hk
  by_cases hA : (i : Int) = t ∧ u ≤ (k : Int)
  · rw [if_pos hA, if_pos hA]
    by_cases hB : (k : Int) + n < g.c
    · have e : by17 n = n := by unfold by17; split <;> (try split) <;> omega
      rw [e, if_pos hB, if_pos (by omega)]
    · rw [if_neg hB, if_neg (by unfold by17; split <;> (try split) <;> omega)]
  · rw [if_neg hA, if_neg hA]
theorem rhas_ok (E : Env) (g : Gd) (v : Value) (row col : Int) (hs : IsSl v) : Does Try.prog 17 #[.agg #[.int .i64 g.r, .int .i64 g.c, v], .int .i64 row, .int .i64 col] E ([]) fun r H' => r = .bool (decide (g.has row col)) ∧ H' = [] := by
  obtain ⟨va, vm, vc, rfl⟩ := hs
  by_cases h : g.has row col
  · rw [decide_eq_true h]
    unfold Gd.has at h
    refine Does.go _ _ Try.func17 rfl Try.ntmps17 rfl rfl ?_
    refine Body.seq ?_
    refine Body.region ?_
    refine Ops.s (Stp.box (lk rfl) rfl (fun b3 => ?_)) rfl
    refine Ops.u (Dtu.asg (lk rfl)) rfl ?_
    refine Ops.nil ?_
    refine Then.next ?_
    refine Body.seq ?_
    refine Body.region ?_
    refine Ops.u (Dtu.mv (lk rfl)) rfl ?_
    refine Ops.u (Dtu.geq (lk rfl) (lk rfl)) rfl ?_
    refine Ops.u (Dtu.mv (lk rfl)) rfl ?_
    refine Ops.decP 9 rfl (fun _ => ?_) (fun hn => absurd (by first | omega | assumption | decide) hn)
    refine Ops.gu rfl rfl rfl (Dtu.mv (lk rfl)) rfl ?_
    refine Ops.gu rfl rfl rfl (Dtu.fld fa29_0 (lk rfl)) rfl ?_
    refine Ops.gd rfl rfl rfl (Det.ld Try.isAgg3 (lk rfl) (Rd.ow 0 rfl rfl)) rfl ?_
    refine Ops.gu rfl rfl rfl (Dtu.lss (lk rfl) (lk rfl)) rfl ?_
    refine Ops.u (Dtu.pickT (lk rfl) (lk rfl)) rfl ?_
    refine Ops.u (Dtu.mv (lk rfl)) rfl ?_
    refine Ops.decP 15 rfl (fun _ => ?_) (fun hn => absurd (by first | omega | assumption | decide) hn)
    refine Ops.gu rfl rfl rfl (Dtu.mv (lk rfl)) rfl ?_
    refine Ops.gu rfl rfl rfl (Dtu.geq (lk rfl) (lk rfl)) rfl ?_
    refine Ops.u (Dtu.pickT (lk rfl) (lk rfl)) rfl ?_
    refine Ops.u (Dtu.mv (lk rfl)) rfl ?_
    refine Ops.decP 19 rfl (fun _ => ?_) (fun hn => absurd (by first | omega | assumption | decide) hn)
    refine Ops.gu rfl rfl rfl (Dtu.mv (lk rfl)) rfl ?_
    refine Ops.gu rfl rfl rfl (Dtu.fld fa29_1 (lk rfl)) rfl ?_
    refine Ops.gd rfl rfl rfl (Det.ld Try.isAgg3 (lk rfl) (Rd.ow 0 rfl rfl)) rfl ?_
    refine Ops.gu rfl rfl rfl (Dtu.lss (lk rfl) (lk rfl)) rfl ?_
    refine Ops.u (Dtu.pickT (lk rfl) (lk rfl)) rfl ?_
    refine Ops.u (Dtu.asg (lk rfl)) rfl ?_
    refine Ops.nil ?_
    refine Then.next ?_
    refine Body.ret ?_
    exact ⟨.inr rfl, _, pk [] rfl, bool_eq (by simp; omega), rfl⟩
  · rw [decide_eq_false h]
    unfold Gd.has at h
    refine Does.go _ _ Try.func17 rfl Try.ntmps17 rfl rfl ?_
    refine Body.seq ?_
    refine Body.region ?_
    refine Ops.s (Stp.box (lk rfl) rfl (fun b3 => ?_)) rfl
    refine Ops.u (Dtu.asg (lk rfl)) rfl ?_
    refine Ops.nil ?_
    refine Then.next ?_
    refine Body.seq ?_
    refine Body.region ?_
    refine Ops.u (Dtu.mv (lk rfl)) rfl ?_
    refine Ops.u (Dtu.geq (lk rfl) (lk rfl)) rfl ?_
    refine Ops.u (Dtu.mv (lk rfl)) rfl ?_
    refine Ops.decP 9 rfl (fun c9 => ?_) (fun c9 => ?_)
    · refine Ops.gu rfl rfl rfl (Dtu.mv (lk rfl)) rfl ?_
      refine Ops.gu rfl rfl rfl (Dtu.fld fa29_0 (lk rfl)) rfl ?_
      refine Ops.gd rfl rfl rfl (Det.ld Try.isAgg3 (lk rfl) (Rd.ow 0 rfl rfl)) rfl ?_
      refine Ops.gu rfl rfl rfl (Dtu.lss (lk rfl) (lk rfl)) rfl ?_
      refine Ops.u (Dtu.pickT (lk rfl) (lk rfl)) rfl ?_
      refine Ops.u (Dtu.mv (lk rfl)) rfl ?_
      refine Ops.decP 15 rfl (fun c15 => ?_) (fun c15 => ?_)
      · refine Ops.gu rfl rfl rfl (Dtu.mv (lk rfl)) rfl ?_
        refine Ops.gu rfl rfl rfl (Dtu.geq (lk rfl) (lk rfl)) rfl ?_
        refine Ops.u (Dtu.pickT (lk rfl) (lk rfl)) rfl ?_
        refine Ops.u (Dtu.mv (lk rfl)) rfl ?_
        refine Ops.decP 19 rfl (fun c19 => ?_) (fun c19 => ?_)
        · refine Ops.gu rfl rfl rfl (Dtu.mv (lk rfl)) rfl ?_
          refine Ops.gu rfl rfl rfl (Dtu.fld fa29_1 (lk rfl)) rfl ?_
          refine Ops.gd rfl rfl rfl (Det.ld Try.isAgg3 (lk rfl) (Rd.ow 0 rfl rfl)) rfl ?_
          refine Ops.gu rfl rfl rfl (Dtu.lss (lk rfl) (lk rfl)) rfl ?_
          refine Ops.u (Dtu.pickT (lk rfl) (lk rfl)) rfl ?_
          refine Ops.u (Dtu.asg (lk rfl)) rfl ?_
          refine Ops.nil ?_
          refine Then.next ?_
          refine Body.ret ?_
          exact ⟨.inr rfl, _, pk [] rfl, bool_eq (by simp; omega), rfl⟩
        · refine Ops.gn rfl rfl rfl rfl rfl ?_
          refine Ops.gn rfl rfl rfl rfl rfl ?_
          refine Ops.gn rfl rfl rfl rfl rfl ?_
          refine Ops.gn rfl rfl rfl rfl rfl ?_
          refine Ops.u (Dtu.pickF (lk rfl) (lk rfl)) rfl ?_
          refine Ops.u (Dtu.asg (lk rfl)) rfl ?_
          refine Ops.nil ?_
          refine Then.next ?_
          refine Body.ret ?_
          exact ⟨.inr rfl, _, pk [] rfl, rfl, rfl⟩
      · refine Ops.gn rfl rfl rfl rfl rfl ?_
        refine Ops.gn rfl rfl rfl rfl rfl ?_
        refine Ops.u (Dtu.pickF (lk rfl) (lk rfl)) rfl ?_
        refine Ops.u (Dtu.mv (lk rfl)) rfl ?_
        refine Ops.gn rfl rfl rfl rfl rfl ?_
        refine Ops.gn rfl rfl rfl rfl rfl ?_
        refine Ops.gn rfl rfl rfl rfl rfl ?_
        refine Ops.gn rfl rfl rfl rfl rfl ?_
        refine Ops.u (Dtu.pickF (lk rfl) (lk rfl)) rfl ?_
        refine Ops.u (Dtu.asg (lk rfl)) rfl ?_
        refine Ops.nil ?_
        refine Then.next ?_
        refine Body.ret ?_
        exact ⟨.inr rfl, _, pk [] rfl, rfl, rfl⟩
    · refine Ops.gn rfl rfl rfl rfl rfl ?_
      refine Ops.gn rfl rfl rfl rfl rfl ?_
      refine Ops.gn rfl rfl rfl rfl rfl ?_
      refine Ops.gn rfl rfl rfl rfl rfl ?_
      refine Ops.u (Dtu.pickF (lk rfl) (lk rfl)) rfl ?_
      refine Ops.u (Dtu.mv (lk rfl)) rfl ?_
      refine Ops.gn rfl rfl rfl rfl rfl ?_
      refine Ops.gn rfl rfl rfl rfl rfl ?_
      refine Ops.u (Dtu.pickF (lk rfl) (lk rfl)) rfl ?_
      refine Ops.u (Dtu.mv (lk rfl)) rfl ?_
      refine Ops.gn rfl rfl rfl rfl rfl ?_
      refine Ops.gn rfl rfl rfl rfl rfl ?_
      refine Ops.gn rfl rfl rfl rfl rfl ?_
      refine Ops.gn rfl rfl rfl rfl rfl ?_
      refine Ops.u (Dtu.pickF (lk rfl) (lk rfl)) rfl ?_
      refine Ops.u (Dtu.asg (lk rfl)) rfl ?_
      refine Ops.nil ?_
      refine Then.next ?_
      refine Body.ret ?_
      exact ⟨.inr rfl, _, pk [] rfl, rfl, rfl⟩
theorem do17_ok (E : Env) (b : Nat) (g : Gd) (a : Option Addr) (m : Nat) (k oa ob n pt fl fg bg : Int) (ok : g.Ok) (h0 : 0 ≤ fl) (h1 : fl < 256) : Does Try.prog 15 #[.pointer (some ⟨b, 0, none⟩), .agg #[.int .i64 g.r, .int .i64 g.c, .slice a (g.r * g.c) m], .agg #[.int .i64 k, .int .i64 oa, .int .i64 ob, .int .i64 n, .int .i32 pt, .int .u8 fl, .int .u32 fg, .int .u32 bg]] E ([gridP b g, osl 49 11 (.slice a (g.r * g.c) m) (g.r * g.c) (g.flat.flatMap Cell.renc)]) fun r H' => ∃ a' m' g', g' = g.op ⟨k, oa, ob, n, ⟨pt, fl, fg, bg⟩⟩ ∧ r = .tuple #[.agg #[.int .i64 g'.r, .int .i64 g'.c, .slice a' (g'.r * g'.c) m'], .bool true] ∧ H' = [gridP b g', osl 49 11 (.slice a' (g'.r * g'.c) m') (g'.r * g'.c) (g'.flat.flatMap Cell.renc)] := by
  have hb := ok.r
  have hc := ok.c
  refine Does.go _ _ Try.func15 rfl Try.ntmps15 rfl rfl ?_
  refine Body.seq ?_
  refine Body.region ?_
  refine Ops.s (Stp.box (lk rfl) rfl (fun b4 => ?_)) rfl
  refine Ops.s (Stp.box (lk rfl) rfl (fun b5 => ?_)) rfl
  refine Ops.s (Stp.alloc ty29 (fun b6 => ?_)) rfl
  refine Ops.u (Dtu.asg (lk rfl)) rfl ?_
  refine Ops.nil ?_
  refine Then.next ?_
  refine Body.seq ?_
  refine Body.region ?_
  refine Ops.u (Dtu.fld fa41_4 (lk rfl)) rfl ?_
  refine Ops.d (Det.lda Try.isAgg39 Try.sizeOf39 (lk rfl) (Rds.ow (m := 4) 1 rfl rfl) rfl) rfl ?_
  refine Ops.s (Stp.call rfl Try.call18 (lks rfl) (fun E' le hat => cell17_ok E' _ _ _ _ (by first | assumption | omega) (by first | assumption | omega)) ?_) rfl
  rintro _ _ ⟨rfl, rfl⟩
  refine Ops.s (Stp.alloc ty49 (fun b8 => ?_)) rfl
  refine Ops.e (Stp.store 0 Try.sizeOf49 (lk rfl) (lk rfl) rfl rfl rfl rfl rfl rfl rfl ?_)
  refine Ops.nil ?_
  refine Then.next ?_
  refine Body.seq ?_
  refine Body.region ?_
  refine Ops.u (Dtu.asg (lk rfl)) rfl ?_
  refine Ops.u (Dtu.asg (lk rfl)) rfl ?_
  refine Ops.nil ?_
  refine Then.next ?_
  refine Body.seqJH (γ := Unit) rfl (fun _g => [(11, .bool (!decide (g.rows oa ob n)))]) (fun _g => []) (fun _g => True) ?_ ?_
  · have hww : ∀ v : Bool, (v = true ↔ ¬ (0 ≤ oa ∧ oa ≤ ob ∧ ob < g.r ∧ 0 ≤ n)) → v = !decide (g.rows oa ob n) := fun v h => by
      change (v = true ↔ ¬ g.rows oa ob n) at h
      by_cases hr : g.rows oa ob n <;> cases v <;> simp_all
    refine Body.region ?_
    refine Ops.u (Dtu.fld fa41_1 (lk rfl)) rfl ?_
    refine Ops.d (Det.ld Try.isAgg3 (lk rfl) (Rd.ow 2 rfl rfl)) rfl ?_
    refine Ops.u (Dtu.lss (lk rfl) (lk rfl)) rfl ?_
    refine Ops.u (Dtu.mv (lk rfl)) rfl ?_
    refine Ops.decP 19 rfl (fun c19 => ?_) (fun c19 => ?_)
    · refine Ops.gn rfl rfl rfl rfl rfl ?_
      refine Ops.gn rfl rfl rfl rfl rfl ?_
      refine Ops.gn rfl rfl rfl rfl rfl ?_
      refine Ops.gn rfl rfl rfl rfl rfl ?_
      refine Ops.gn rfl rfl rfl rfl rfl ?_
      refine Ops.u (Dtu.pickT (lk rfl) (lk rfl)) rfl ?_
      refine Ops.u (Dtu.mv (lk rfl)) rfl ?_
      refine Ops.gn rfl rfl rfl rfl rfl ?_
      refine Ops.gn rfl rfl rfl rfl rfl ?_
      refine Ops.gn rfl rfl rfl rfl rfl ?_
      refine Ops.gn rfl rfl rfl rfl rfl ?_
      refine Ops.gn rfl rfl rfl rfl rfl ?_
      refine Ops.u (Dtu.pickT (lk rfl) (lk rfl)) rfl ?_
      refine Ops.u (Dtu.mv (lk rfl)) rfl ?_
      refine Ops.gn rfl rfl rfl rfl rfl ?_
      refine Ops.gn rfl rfl rfl rfl rfl ?_
      refine Ops.gn rfl rfl rfl rfl rfl ?_
      refine Ops.u (Dtu.pickT (lk rfl) (lk rfl)) rfl ?_
      refine Ops.u (Dtu.asg (lk rfl)) rfl ?_
      refine Ops.nil ?_
      refine Joint.goK [0, 0, 0, 0, 0, 0] () rfl rfl rfl ⟨(by first | exact congrArg (fun v => some (Value.bool v)) (hww true (by simp <;> omega)) | exact congrArg (fun v => some (Value.bool v)) (hww false (by simp <;> omega)) | exact congrArg (fun v => some (Value.bool v)) (hww (decide _) (by simp <;> omega))), trivial⟩ rfl rfl trivial
    · refine Ops.gu rfl rfl rfl (Dtu.fld fa41_1 (lk rfl)) rfl ?_
      refine Ops.gd rfl rfl rfl (Det.ld Try.isAgg3 (lk rfl) (Rd.ow 2 rfl rfl)) rfl ?_
      refine Ops.gu rfl rfl rfl (Dtu.fld fa41_2 (lk rfl)) rfl ?_
      refine Ops.gd rfl rfl rfl (Det.ld Try.isAgg3 (lk rfl) (Rd.ow 2 rfl rfl)) rfl ?_
      refine Ops.gu rfl rfl rfl (Dtu.gtr (lk rfl) (lk rfl)) rfl ?_
      refine Ops.u (Dtu.pickF (lk rfl) (lk rfl)) rfl ?_
      refine Ops.u (Dtu.mv (lk rfl)) rfl ?_
      refine Ops.decP 26 rfl (fun c26 => ?_) (fun c26 => ?_)
      · refine Ops.gn rfl rfl rfl rfl rfl ?_
        refine Ops.gn rfl rfl rfl rfl rfl ?_
        refine Ops.gn rfl rfl rfl rfl rfl ?_
        refine Ops.gn rfl rfl rfl rfl rfl ?_
        refine Ops.gn rfl rfl rfl rfl rfl ?_
        refine Ops.u (Dtu.pickT (lk rfl) (lk rfl)) rfl ?_
        refine Ops.u (Dtu.mv (lk rfl)) rfl ?_
        refine Ops.gn rfl rfl rfl rfl rfl ?_
        refine Ops.gn rfl rfl rfl rfl rfl ?_
        refine Ops.gn rfl rfl rfl rfl rfl ?_
        refine Ops.u (Dtu.pickT (lk rfl) (lk rfl)) rfl ?_
        refine Ops.u (Dtu.asg (lk rfl)) rfl ?_
        refine Ops.nil ?_
        refine Joint.goK [0, 0, 0, 0, 0, 0] () rfl rfl rfl ⟨(by first | exact congrArg (fun v => some (Value.bool v)) (hww true (by simp <;> omega)) | exact congrArg (fun v => some (Value.bool v)) (hww false (by simp <;> omega)) | exact congrArg (fun v => some (Value.bool v)) (hww (decide _) (by simp <;> omega))), trivial⟩ rfl rfl trivial
      · refine Ops.gu rfl rfl rfl (Dtu.fld fa41_2 (lk rfl)) rfl ?_
        refine Ops.gd rfl rfl rfl (Det.ld Try.isAgg3 (lk rfl) (Rd.ow 2 rfl rfl)) rfl ?_
        refine Ops.gu rfl rfl rfl (Dtu.fld fa29_0 (lk rfl)) rfl ?_
        refine Ops.gd rfl rfl rfl (Det.ld Try.isAgg3 (lk rfl) (Rd.ow 3 rfl rfl)) rfl ?_
        refine Ops.gu rfl rfl rfl (Dtu.geq (lk rfl) (lk rfl)) rfl ?_
        refine Ops.u (Dtu.pickF (lk rfl) (lk rfl)) rfl ?_
        refine Ops.u (Dtu.mv (lk rfl)) rfl ?_
        refine Ops.decP 33 rfl (fun c33 => ?_) (fun c33 => ?_)
        · refine Ops.gn rfl rfl rfl rfl rfl ?_
          refine Ops.gn rfl rfl rfl rfl rfl ?_
          refine Ops.gn rfl rfl rfl rfl rfl ?_
          refine Ops.u (Dtu.pickT (lk rfl) (lk rfl)) rfl ?_
          refine Ops.u (Dtu.asg (lk rfl)) rfl ?_
          refine Ops.nil ?_
          refine Joint.goK [0, 0, 0, 0, 0, 0] () rfl rfl rfl ⟨(by first | exact congrArg (fun v => some (Value.bool v)) (hww true (by simp <;> omega)) | exact congrArg (fun v => some (Value.bool v)) (hww false (by simp <;> omega)) | exact congrArg (fun v => some (Value.bool v)) (hww (decide _) (by simp <;> omega))), trivial⟩ rfl rfl trivial
        · refine Ops.gu rfl rfl rfl (Dtu.fld fa41_3 (lk rfl)) rfl ?_
          refine Ops.gd rfl rfl rfl (Det.ld Try.isAgg3 (lk rfl) (Rd.ow 2 rfl rfl)) rfl ?_
          refine Ops.gu rfl rfl rfl (Dtu.lss (lk rfl) (lk rfl)) rfl ?_
          refine Ops.u (Dtu.pickF (lk rfl) (lk rfl)) rfl ?_
          refine Ops.u (Dtu.asg (lk rfl)) rfl ?_
          refine Ops.nil ?_
          refine Joint.goK [0, 0, 0, 0, 0, 0] () rfl rfl rfl ⟨(by first | exact congrArg (fun v => some (Value.bool v)) (hww true (by simp <;> omega)) | exact congrArg (fun v => some (Value.bool v)) (hww false (by simp <;> omega)) | exact congrArg (fun v => some (Value.bool v)) (hww (decide _) (by simp <;> omega))), trivial⟩ rfl rfl trivial
  rintro ⟨⟩ u0 -
  refine Body.seq ?_
  refine Body.region ?_
  refine Ops.u (Dtu.asg (lk rfl)) rfl ?_
  refine Ops.nil ?_
  refine Then.next ?_
  refine Body.seqJH (γ := Unit) rfl (fun _g => [(12, .int .i64 (by17 n))]) (fun _g => []) (fun _g => True) ?_ ?_
  · refine Body.seq ?_
    refine Body.region ?_
    refine Ops.u (Dtu.fld fa41_3 (lk rfl)) rfl ?_
    refine Ops.d (Det.ld Try.isAgg3 (lk rfl) (Rd.ow 2 rfl rfl)) rfl ?_
    refine Ops.u (Dtu.gtr (lk rfl) (lk rfl)) rfl ?_
    refine Ops.nil ?_
    refine Then.next ?_
    refine Body.condP (lk rfl) (fun c40 => ?_) (fun c40 => ?_)
    · refine Body.region ?_
      refine Ops.u (Dtu.asg (lk rfl)) rfl ?_
      refine Ops.nil ?_
      refine Joint.goK [0, 0, 0, 0, 0, 0] () rfl rfl rfl ⟨int_eq (by unfold by17; (repeat' split) <;> omega), trivial⟩ rfl rfl trivial
    · refine Body.seq ?_
      refine Body.region ?_
      refine Ops.u (Dtu.fld fa41_3 (lk rfl)) rfl ?_
      refine Ops.d (Det.ld Try.isAgg3 (lk rfl) (Rd.ow 2 rfl rfl)) rfl ?_
      refine Ops.u (Dtu.gtr (lk rfl) (lk rfl)) rfl ?_
      refine Ops.nil ?_
      refine Then.next ?_
      refine Body.condP (lk rfl) (fun c43 => ?_) (fun c43 => ?_)
      · refine Body.region ?_
        refine Ops.u (Dtu.fld fa41_3 (lk rfl)) rfl ?_
        refine Ops.d (Det.ld Try.isAgg3 (lk rfl) (Rd.ow 2 rfl rfl)) rfl ?_
        refine Ops.u (Dtu.asg (lk rfl)) rfl ?_
        refine Ops.nil ?_
        refine Joint.goK [0, 0, 0, 0, 0, 0] () rfl rfl rfl ⟨int_eq (by unfold by17; (repeat' split) <;> omega), trivial⟩ rfl rfl trivial
      · refine Body.skip ?_
        refine Joint.goK [0, 0, 0, 0, 0, 0] () rfl rfl rfl ⟨int_eq (by unfold by17; (repeat' split) <;> omega), trivial⟩ rfl rfl trivial
  rintro ⟨⟩ u1 -
  have hby : -60 ≤ by17 n ∧ by17 n ≤ 60 := by unfold by17; (repeat' split) <;> omega
  by_cases k0 : k = 0
  · subst k0
    have hg : g.op ⟨0, oa, ob, n, ⟨pt, fl, fg, bg⟩⟩ = g.put oa ob ⟨pt, fl, fg, bg⟩ := rfl
    rw [hg]
    by_cases h : g.has oa ob
    · have e := erI_pos h
      have hr1 : (g.put oa ob ⟨pt, fl, fg, bg⟩).r = g.r := by rw [Gd.put, if_pos h]
      have hr2 : (g.put oa ob ⟨pt, fl, fg, bg⟩).c = g.c := by rw [Gd.put, if_pos h]
      refine Body.seq ?_
      refine Body.seq ?_
      refine Body.region ?_
      refine Ops.u (Dtu.fld fa41_0 (lk rfl)) rfl ?_
      refine Ops.d (Det.ld Try.isAgg3 (lk rfl) (Rd.ow 2 rfl rfl)) rfl ?_
      refine Ops.nil ?_
      refine Then.next ?_
      refine Body.block ?_
      refine Body.seq ?_
      refine Body.region ?_
      refine Ops.u (Dtu.eql (lk rfl) (lk rfl)) rfl ?_
      refine Ops.u (Dtu.asg (lk rfl)) rfl ?_
      refine Ops.nil ?_
      refine Then.next ?_
      refine Body.condP (lk rfl) (fun _ => ?_) (fun hn => absurd (by first | omega | assumption | decide) hn)
      refine Body.seq ?_
      refine Body.region ?_
      refine Ops.u (Dtu.mv (lk rfl)) rfl ?_
      refine Ops.u (Dtu.fld fa41_1 (lk rfl)) rfl ?_
      refine Ops.d (Det.ld Try.isAgg3 (lk rfl) (Rd.ow 2 rfl rfl)) rfl ?_
      refine Ops.u (Dtu.fld fa41_2 (lk rfl)) rfl ?_
      refine Ops.d (Det.ld Try.isAgg3 (lk rfl) (Rd.ow 2 rfl rfl)) rfl ?_
      refine Ops.u (Dtu.fld fa41_4 (lk rfl)) rfl ?_
      refine Ops.d (Det.lda Try.isAgg39 Try.sizeOf39 (lk rfl) (Rds.ow (m := 4) 2 rfl rfl) rfl) rfl ?_
      refine Ops.s (Stp.callOwn [4] rfl rfl Try.call29 (lks rfl) (fun E' le hat => put_g E' _ _ _ _ _ _ _ _) ?_) rfl
      rintro _ _ ⟨rfl, rfl⟩
      refine Ops.u (Dtu.asg (lk rfl)) rfl ?_
      refine Ops.nil ?_
      refine Then.next ?_
      refine Body.region ?_
      refine Ops.d (Det.lda Try.isAgg29 Try.sizeOf29 (lk rfl) (Rds.ow (m := 3) 4 rfl rfl) rfl) rfl ?_
      refine Ops.u (Dtu.fld fa41_1 (lk rfl)) rfl ?_
      refine Ops.d (Det.ld Try.isAgg3 (lk rfl) (Rd.ow 3 rfl rfl)) rfl ?_
      refine Ops.u (Dtu.fld fa41_2 (lk rfl)) rfl ?_
      refine Ops.d (Det.ld Try.isAgg3 (lk rfl) (Rd.ow 3 rfl rfl)) rfl ?_
      refine Ops.d (Det.lda Try.isAgg49 Try.sizeOf49 (lk rfl) (Rds.ow (m := 11) 1 rfl rfl) rfl) rfl ?_
      refine Ops.s (Stp.call rfl Try.call75 (lks rfl) (fun E' le hat => rput_ok E' _ _ _ _ _ _ _ _ (by first | assumption | omega) (by first | assumption | omega) (by first | exact Sl.mono (by assumption) le | exact Sl.hatI hat 0 rfl | exact Sl.hatI hat 1 rfl | exact Sl.hatI hat 2 rfl | exact Sl.hatI hat 3 rfl | exact Sl.hatI hat 4 rfl | exact Sl.hatI hat 5 rfl | exact Sl.hatI hat 6 rfl | exact Sl.hatI hat 7 rfl | exact Sl.hatI hat 8 rfl | exact Sl.hatI hat 9 rfl | exact Sl.hatI hat 10 rfl | exact Sl.hatI hat 11 rfl | exact Sl.hatI hat 12 rfl | exact Sl.hatI hat 13 rfl | exact Sl.hatI hat 14 rfl | exact Sl.hatI hat 15 rfl)) ?_) rfl
      rintro _ _ ⟨ra65, rc65, rfl, rfl⟩
      refine Ops.u (Dtu.mv (lk rfl)) rfl ?_
      refine Ops.u (Dtu.ext (lk rfl) rfl) rfl ?_
      refine Ops.u (Dtu.ext (lk rfl) rfl) rfl ?_
      refine Ops.e (Stp.store 5 Try.sizeOf29 (lk rfl) (lk rfl) rfl rfl rfl rfl rfl rfl rfl ?_)
      refine Ops.u (Dtu.asg (lk rfl)) rfl ?_
      refine Ops.nil ?_
      refine Blk.norm ?_
      refine Then.next ?_
      refine Body.seq ?_
      refine Body.region ?_
      refine Ops.d (Det.lda Try.isAgg29 Try.sizeOf29 (lk rfl) (Rds.ow (m := 3) 5 rfl rfl) rfl) rfl ?_
      refine Ops.u (Dtu.mv (lk rfl)) rfl ?_
      refine Ops.u (Dtu.mv (lk rfl)) rfl ?_
      refine Ops.u (Dtu.eql (lk rfl) (lk rfl)) rfl ?_
      refine Ops.e (Stp.store 3 Try.sizeOf29 (lk rfl) (lk rfl) rfl rfl rfl rfl rfl rfl rfl ?_)
      refine Ops.u (Dtu.asg (lk rfl)) rfl ?_
      refine Ops.nil ?_
      refine Then.next ?_
      refine Body.ret ?_
      exact ⟨.inr rfl, _, Loads.agg Try.isAgg29 Try.sizeOf29 (Rds.ow (m := 3) 3 rfl rfl) rfl, _, pk [1, 0] rfl, ra65, rc65, _, rfl, by rw [hr1, hr2, e]; rfl, by rw [hr1, hr2]⟩
    · have e := erI_neg h
      have e2 : g.put oa ob ⟨pt, fl, fg, bg⟩ = g := if_neg h
      refine Body.seq ?_
      refine Body.seq ?_
      refine Body.region ?_
      refine Ops.u (Dtu.fld fa41_0 (lk rfl)) rfl ?_
      refine Ops.d (Det.ld Try.isAgg3 (lk rfl) (Rd.ow 2 rfl rfl)) rfl ?_
      refine Ops.nil ?_
      refine Then.next ?_
      refine Body.block ?_
      refine Body.seq ?_
      refine Body.region ?_
      refine Ops.u (Dtu.eql (lk rfl) (lk rfl)) rfl ?_
      refine Ops.u (Dtu.asg (lk rfl)) rfl ?_
      refine Ops.nil ?_
      refine Then.next ?_
      refine Body.condP (lk rfl) (fun _ => ?_) (fun hn => absurd (by first | omega | assumption | decide) hn)
      refine Body.seq ?_
      refine Body.region ?_
      refine Ops.u (Dtu.mv (lk rfl)) rfl ?_
      refine Ops.u (Dtu.fld fa41_1 (lk rfl)) rfl ?_
      refine Ops.d (Det.ld Try.isAgg3 (lk rfl) (Rd.ow 2 rfl rfl)) rfl ?_
      refine Ops.u (Dtu.fld fa41_2 (lk rfl)) rfl ?_
      refine Ops.d (Det.ld Try.isAgg3 (lk rfl) (Rd.ow 2 rfl rfl)) rfl ?_
      refine Ops.u (Dtu.fld fa41_4 (lk rfl)) rfl ?_
      refine Ops.d (Det.lda Try.isAgg39 Try.sizeOf39 (lk rfl) (Rds.ow (m := 4) 2 rfl rfl) rfl) rfl ?_
      refine Ops.s (Stp.callOwn [4] rfl rfl Try.call29 (lks rfl) (fun E' le hat => put_g E' _ _ _ _ _ _ _ _) ?_) rfl
      rintro _ _ ⟨rfl, rfl⟩
      refine Ops.u (Dtu.asg (lk rfl)) rfl ?_
      refine Ops.nil ?_
      refine Then.next ?_
      refine Body.region ?_
      refine Ops.d (Det.lda Try.isAgg29 Try.sizeOf29 (lk rfl) (Rds.ow (m := 3) 4 rfl rfl) rfl) rfl ?_
      refine Ops.u (Dtu.fld fa41_1 (lk rfl)) rfl ?_
      refine Ops.d (Det.ld Try.isAgg3 (lk rfl) (Rd.ow 3 rfl rfl)) rfl ?_
      refine Ops.u (Dtu.fld fa41_2 (lk rfl)) rfl ?_
      refine Ops.d (Det.ld Try.isAgg3 (lk rfl) (Rd.ow 3 rfl rfl)) rfl ?_
      refine Ops.d (Det.lda Try.isAgg49 Try.sizeOf49 (lk rfl) (Rds.ow (m := 11) 1 rfl rfl) rfl) rfl ?_
      refine Ops.s (Stp.call rfl Try.call75 (lks rfl) (fun E' le hat => rput_no E' _ _ _ _ _ (by first | assumption | omega) ⟨_, _, _, rfl⟩) ?_) rfl
      rintro _ _ ⟨rfl, rfl⟩
      refine Ops.u (Dtu.mv (lk rfl)) rfl ?_
      refine Ops.u (Dtu.ext (lk rfl) rfl) rfl ?_
      refine Ops.u (Dtu.ext (lk rfl) rfl) rfl ?_
      refine Ops.e (Stp.store 4 Try.sizeOf29 (lk rfl) (lk rfl) rfl rfl rfl rfl rfl rfl rfl ?_)
      refine Ops.u (Dtu.asg (lk rfl)) rfl ?_
      refine Ops.nil ?_
      refine Blk.norm ?_
      refine Then.next ?_
      refine Body.seq ?_
      refine Body.region ?_
      refine Ops.d (Det.lda Try.isAgg29 Try.sizeOf29 (lk rfl) (Rds.ow (m := 3) 4 rfl rfl) rfl) rfl ?_
      refine Ops.u (Dtu.mv (lk rfl)) rfl ?_
      refine Ops.u (Dtu.mv (lk rfl)) rfl ?_
      refine Ops.u (Dtu.eql (lk rfl) (lk rfl)) rfl ?_
      refine Ops.e (Stp.store 2 Try.sizeOf29 (lk rfl) (lk rfl) rfl rfl rfl rfl rfl rfl rfl ?_)
      refine Ops.u (Dtu.asg (lk rfl)) rfl ?_
      refine Ops.nil ?_
      refine Then.next ?_
      refine Body.ret ?_
      rw [e2]
      exact ⟨.inr rfl, _, Loads.agg Try.isAgg29 Try.sizeOf29 (Rds.ow (m := 3) 2 rfl rfl) rfl, _, pk [0, 4] rfl, a, m, g, rfl, by rw [e]; rfl, rfl⟩
  by_cases k1 : k = 1
  · subst k1
    have hg : g.op ⟨1, oa, ob, n, ⟨pt, fl, fg, bg⟩⟩ = g.fill oa ob n ⟨pt, fl, fg, bg⟩ := rfl
    rw [hg]
    by_cases h : g.has oa 0
    · have e := erI_pos h
      have hr1 : (g.fill oa ob n ⟨pt, fl, fg, bg⟩).r = g.r := by rw [Gd.fill, if_pos h]
      have hr2 : (g.fill oa ob n ⟨pt, fl, fg, bg⟩).c = g.c := by rw [Gd.fill, if_pos h]
      refine Body.seq ?_
      refine Body.seq ?_
      refine Body.region ?_
      refine Ops.u (Dtu.fld fa41_0 (lk rfl)) rfl ?_
      refine Ops.d (Det.ld Try.isAgg3 (lk rfl) (Rd.ow 2 rfl rfl)) rfl ?_
      refine Ops.nil ?_
      refine Then.next ?_
      refine Body.block ?_
      refine Body.seq ?_
      refine Body.region ?_
      refine Ops.u (Dtu.eql (lk rfl) (lk rfl)) rfl ?_
      refine Ops.u (Dtu.asg (lk rfl)) rfl ?_
      refine Ops.nil ?_
      refine Then.next ?_
      refine Body.condP (lk rfl) (fun hy => absurd hy (by first | omega | assumption | decide)) (fun _ => ?_)
      refine Body.seq ?_
      refine Body.region ?_
      refine Ops.u (Dtu.eql (lk rfl) (lk rfl)) rfl ?_
      refine Ops.u (Dtu.asg (lk rfl)) rfl ?_
      refine Ops.nil ?_
      refine Then.next ?_
      refine Body.condP (lk rfl) (fun _ => ?_) (fun hn => absurd (by first | omega | assumption | decide) hn)
      refine Body.seq ?_
      refine Body.region ?_
      refine Ops.u (Dtu.mv (lk rfl)) rfl ?_
      refine Ops.u (Dtu.fld fa41_1 (lk rfl)) rfl ?_
      refine Ops.d (Det.ld Try.isAgg3 (lk rfl) (Rd.ow 2 rfl rfl)) rfl ?_
      refine Ops.u (Dtu.fld fa41_2 (lk rfl)) rfl ?_
      refine Ops.d (Det.ld Try.isAgg3 (lk rfl) (Rd.ow 2 rfl rfl)) rfl ?_
      refine Ops.u (Dtu.fld fa41_3 (lk rfl)) rfl ?_
      refine Ops.d (Det.ld Try.isAgg3 (lk rfl) (Rd.ow 2 rfl rfl)) rfl ?_
      refine Ops.u (Dtu.fld fa41_4 (lk rfl)) rfl ?_
      refine Ops.d (Det.lda Try.isAgg39 Try.sizeOf39 (lk rfl) (Rds.ow (m := 4) 2 rfl rfl) rfl) rfl ?_
      refine Ops.s (Stp.callOwn [4] rfl rfl Try.call30 (lks rfl) (fun E' le hat => fill_g E' _ _ _ _ _ _ _ _ _) ?_) rfl
      rintro _ _ ⟨rfl, rfl⟩
      refine Ops.u (Dtu.asg (lk rfl)) rfl ?_
      refine Ops.nil ?_
      refine Then.next ?_
      refine Body.region ?_
      refine Ops.d (Det.lda Try.isAgg29 Try.sizeOf29 (lk rfl) (Rds.ow (m := 3) 4 rfl rfl) rfl) rfl ?_
      refine Ops.u (Dtu.fld fa41_1 (lk rfl)) rfl ?_
      refine Ops.d (Det.ld Try.isAgg3 (lk rfl) (Rd.ow 3 rfl rfl)) rfl ?_
      refine Ops.u (Dtu.fld fa41_2 (lk rfl)) rfl ?_
      refine Ops.d (Det.ld Try.isAgg3 (lk rfl) (Rd.ow 3 rfl rfl)) rfl ?_
      refine Ops.u (Dtu.fld fa41_3 (lk rfl)) rfl ?_
      refine Ops.d (Det.ld Try.isAgg3 (lk rfl) (Rd.ow 3 rfl rfl)) rfl ?_
      refine Ops.d (Det.lda Try.isAgg49 Try.sizeOf49 (lk rfl) (Rds.ow (m := 11) 1 rfl rfl) rfl) rfl ?_
      refine Ops.s (Stp.call rfl Try.call76 (lks rfl) (fun E' le hat => rfill_ok E' _ _ _ _ _ _ _ _ _ (by first | assumption | omega) (by first | assumption | omega) (by first | exact Sl.mono (by assumption) le | exact Sl.hatI hat 0 rfl | exact Sl.hatI hat 1 rfl | exact Sl.hatI hat 2 rfl | exact Sl.hatI hat 3 rfl | exact Sl.hatI hat 4 rfl | exact Sl.hatI hat 5 rfl | exact Sl.hatI hat 6 rfl | exact Sl.hatI hat 7 rfl | exact Sl.hatI hat 8 rfl | exact Sl.hatI hat 9 rfl | exact Sl.hatI hat 10 rfl | exact Sl.hatI hat 11 rfl | exact Sl.hatI hat 12 rfl | exact Sl.hatI hat 13 rfl | exact Sl.hatI hat 14 rfl | exact Sl.hatI hat 15 rfl)) ?_) rfl
      rintro _ _ ⟨ra89, rc89, rfl, rfl⟩
      refine Ops.u (Dtu.mv (lk rfl)) rfl ?_
      refine Ops.u (Dtu.ext (lk rfl) rfl) rfl ?_
      refine Ops.u (Dtu.ext (lk rfl) rfl) rfl ?_
      refine Ops.e (Stp.store 5 Try.sizeOf29 (lk rfl) (lk rfl) rfl rfl rfl rfl rfl rfl rfl ?_)
      refine Ops.u (Dtu.asg (lk rfl)) rfl ?_
      refine Ops.nil ?_
      refine Blk.norm ?_
      refine Then.next ?_
      refine Body.seq ?_
      refine Body.region ?_
      refine Ops.d (Det.lda Try.isAgg29 Try.sizeOf29 (lk rfl) (Rds.ow (m := 3) 5 rfl rfl) rfl) rfl ?_
      refine Ops.u (Dtu.mv (lk rfl)) rfl ?_
      refine Ops.u (Dtu.mv (lk rfl)) rfl ?_
      refine Ops.u (Dtu.eql (lk rfl) (lk rfl)) rfl ?_
      refine Ops.e (Stp.store 3 Try.sizeOf29 (lk rfl) (lk rfl) rfl rfl rfl rfl rfl rfl rfl ?_)
      refine Ops.u (Dtu.asg (lk rfl)) rfl ?_
      refine Ops.nil ?_
      refine Then.next ?_
      refine Body.ret ?_
      exact ⟨.inr rfl, _, Loads.agg Try.isAgg29 Try.sizeOf29 (Rds.ow (m := 3) 3 rfl rfl) rfl, _, pk [1, 0] rfl, ra89, rc89, _, rfl, by rw [hr1, hr2, e]; rfl, by rw [hr1, hr2]⟩
    · have e := erI_neg h
      have e2 : g.fill oa ob n ⟨pt, fl, fg, bg⟩ = g := if_neg h
      refine Body.seq ?_
      refine Body.seq ?_
      refine Body.region ?_
      refine Ops.u (Dtu.fld fa41_0 (lk rfl)) rfl ?_
      refine Ops.d (Det.ld Try.isAgg3 (lk rfl) (Rd.ow 2 rfl rfl)) rfl ?_
      refine Ops.nil ?_
      refine Then.next ?_
      refine Body.block ?_
      refine Body.seq ?_
      refine Body.region ?_
      refine Ops.u (Dtu.eql (lk rfl) (lk rfl)) rfl ?_
      refine Ops.u (Dtu.asg (lk rfl)) rfl ?_
      refine Ops.nil ?_
      refine Then.next ?_
      refine Body.condP (lk rfl) (fun hy => absurd hy (by first | omega | assumption | decide)) (fun _ => ?_)
      refine Body.seq ?_
      refine Body.region ?_
      refine Ops.u (Dtu.eql (lk rfl) (lk rfl)) rfl ?_
      refine Ops.u (Dtu.asg (lk rfl)) rfl ?_
      refine Ops.nil ?_
      refine Then.next ?_
      refine Body.condP (lk rfl) (fun _ => ?_) (fun hn => absurd (by first | omega | assumption | decide) hn)
      refine Body.seq ?_
      refine Body.region ?_
      refine Ops.u (Dtu.mv (lk rfl)) rfl ?_
      refine Ops.u (Dtu.fld fa41_1 (lk rfl)) rfl ?_
      refine Ops.d (Det.ld Try.isAgg3 (lk rfl) (Rd.ow 2 rfl rfl)) rfl ?_
      refine Ops.u (Dtu.fld fa41_2 (lk rfl)) rfl ?_
      refine Ops.d (Det.ld Try.isAgg3 (lk rfl) (Rd.ow 2 rfl rfl)) rfl ?_
      refine Ops.u (Dtu.fld fa41_3 (lk rfl)) rfl ?_
      refine Ops.d (Det.ld Try.isAgg3 (lk rfl) (Rd.ow 2 rfl rfl)) rfl ?_
      refine Ops.u (Dtu.fld fa41_4 (lk rfl)) rfl ?_
      refine Ops.d (Det.lda Try.isAgg39 Try.sizeOf39 (lk rfl) (Rds.ow (m := 4) 2 rfl rfl) rfl) rfl ?_
      refine Ops.s (Stp.callOwn [4] rfl rfl Try.call30 (lks rfl) (fun E' le hat => fill_g E' _ _ _ _ _ _ _ _ _) ?_) rfl
      rintro _ _ ⟨rfl, rfl⟩
      refine Ops.u (Dtu.asg (lk rfl)) rfl ?_
      refine Ops.nil ?_
      refine Then.next ?_
      refine Body.region ?_
      refine Ops.d (Det.lda Try.isAgg29 Try.sizeOf29 (lk rfl) (Rds.ow (m := 3) 4 rfl rfl) rfl) rfl ?_
      refine Ops.u (Dtu.fld fa41_1 (lk rfl)) rfl ?_
      refine Ops.d (Det.ld Try.isAgg3 (lk rfl) (Rd.ow 3 rfl rfl)) rfl ?_
      refine Ops.u (Dtu.fld fa41_2 (lk rfl)) rfl ?_
      refine Ops.d (Det.ld Try.isAgg3 (lk rfl) (Rd.ow 3 rfl rfl)) rfl ?_
      refine Ops.u (Dtu.fld fa41_3 (lk rfl)) rfl ?_
      refine Ops.d (Det.ld Try.isAgg3 (lk rfl) (Rd.ow 3 rfl rfl)) rfl ?_
      refine Ops.d (Det.lda Try.isAgg49 Try.sizeOf49 (lk rfl) (Rds.ow (m := 11) 1 rfl rfl) rfl) rfl ?_
      refine Ops.s (Stp.call rfl Try.call76 (lks rfl) (fun E' le hat => rfill_no E' _ _ _ _ _ _ (by first | assumption | omega) ⟨_, _, _, rfl⟩) ?_) rfl
      rintro _ _ ⟨rfl, rfl⟩
      refine Ops.u (Dtu.mv (lk rfl)) rfl ?_
      refine Ops.u (Dtu.ext (lk rfl) rfl) rfl ?_
      refine Ops.u (Dtu.ext (lk rfl) rfl) rfl ?_
      refine Ops.e (Stp.store 4 Try.sizeOf29 (lk rfl) (lk rfl) rfl rfl rfl rfl rfl rfl rfl ?_)
      refine Ops.u (Dtu.asg (lk rfl)) rfl ?_
      refine Ops.nil ?_
      refine Blk.norm ?_
      refine Then.next ?_
      refine Body.seq ?_
      refine Body.region ?_
      refine Ops.d (Det.lda Try.isAgg29 Try.sizeOf29 (lk rfl) (Rds.ow (m := 3) 4 rfl rfl) rfl) rfl ?_
      refine Ops.u (Dtu.mv (lk rfl)) rfl ?_
      refine Ops.u (Dtu.mv (lk rfl)) rfl ?_
      refine Ops.u (Dtu.eql (lk rfl) (lk rfl)) rfl ?_
      refine Ops.e (Stp.store 2 Try.sizeOf29 (lk rfl) (lk rfl) rfl rfl rfl rfl rfl rfl rfl ?_)
      refine Ops.u (Dtu.asg (lk rfl)) rfl ?_
      refine Ops.nil ?_
      refine Then.next ?_
      refine Body.ret ?_
      rw [e2]
      exact ⟨.inr rfl, _, Loads.agg Try.isAgg29 Try.sizeOf29 (Rds.ow (m := 3) 2 rfl rfl) rfl, _, pk [0, 4] rfl, a, m, g, rfl, by rw [e]; rfl, rfl⟩
  by_cases k2 : k = 2
  · subst k2
    have hg : g.op ⟨2, oa, ob, n, ⟨pt, fl, fg, bg⟩⟩ = g.up oa ob n ⟨pt, fl, fg, bg⟩ := rfl
    rw [hg]
    by_cases h : g.rows oa ob n
    · have e := erI_pos h
      have hr1 : (g.up oa ob n ⟨pt, fl, fg, bg⟩).r = g.r := by rw [Gd.up, if_pos h]
      have hr2 : (g.up oa ob n ⟨pt, fl, fg, bg⟩).c = g.c := by rw [Gd.up, if_pos h]
      have hh0 : g.rows oa ob 0 := ⟨h.1, h.2.1, h.2.2.1, by omega⟩
      have hd : decide (g.rows oa ob n) = true := decide_eq_true h
      refine Body.seq ?_
      refine Body.seq ?_
      refine Body.region ?_
      refine Ops.u (Dtu.fld fa41_0 (lk rfl)) rfl ?_
      refine Ops.d (Det.ld Try.isAgg3 (lk rfl) (Rd.ow 2 rfl rfl)) rfl ?_
      refine Ops.nil ?_
      refine Then.next ?_
      refine Body.block ?_
      refine Body.seq ?_
      refine Body.region ?_
      refine Ops.u (Dtu.eql (lk rfl) (lk rfl)) rfl ?_
      refine Ops.u (Dtu.asg (lk rfl)) rfl ?_
      refine Ops.nil ?_
      refine Then.next ?_
      refine Body.condP (lk rfl) (fun hy => absurd hy (by first | omega | assumption | decide)) (fun _ => ?_)
      refine Body.seq ?_
      refine Body.region ?_
      refine Ops.u (Dtu.eql (lk rfl) (lk rfl)) rfl ?_
      refine Ops.u (Dtu.asg (lk rfl)) rfl ?_
      refine Ops.nil ?_
      refine Then.next ?_
      refine Body.condP (lk rfl) (fun hy => absurd hy (by first | omega | assumption | decide)) (fun _ => ?_)
      refine Body.seq ?_
      refine Body.seq ?_
      refine Body.region ?_
      refine Ops.u (Dtu.eql (lk rfl) (lk rfl)) rfl ?_
      refine Ops.u (Dtu.asg (lk rfl)) rfl ?_
      refine Ops.nil ?_
      refine Then.next ?_
      refine Body.condP (lk rfl) (fun _ => ?_) (fun hn => absurd (by first | omega | assumption | decide) hn)
      refine Body.skip ?_
      refine Then.next ?_
      refine Body.condP (lk rfl) (fun _ => ?_) (fun hn => absurd (by first | omega | assumption | decide) hn)
      refine Body.seq ?_
      refine Body.seq ?_
      refine Body.region ?_
      refine Ops.u (Dtu.fld fa41_0 (lk rfl)) rfl ?_
      refine Ops.d (Det.ld Try.isAgg3 (lk rfl) (Rd.ow 2 rfl rfl)) rfl ?_
      refine Ops.u (Dtu.eql (lk rfl) (lk rfl)) rfl ?_
      refine Ops.nil ?_
      refine Then.next ?_
      refine Body.condP (lk rfl) (fun _ => ?_) (fun hn => absurd (by first | omega | assumption | decide) hn)
      refine Body.region ?_
      refine Ops.u (Dtu.mv (lk rfl)) rfl ?_
      refine Ops.u (Dtu.fld fa41_1 (lk rfl)) rfl ?_
      refine Ops.d (Det.ld Try.isAgg3 (lk rfl) (Rd.ow 2 rfl rfl)) rfl ?_
      refine Ops.u (Dtu.fld fa41_2 (lk rfl)) rfl ?_
      refine Ops.d (Det.ld Try.isAgg3 (lk rfl) (Rd.ow 2 rfl rfl)) rfl ?_
      refine Ops.u (Dtu.fld fa41_3 (lk rfl)) rfl ?_
      refine Ops.d (Det.ld Try.isAgg3 (lk rfl) (Rd.ow 2 rfl rfl)) rfl ?_
      refine Ops.u (Dtu.fld fa41_4 (lk rfl)) rfl ?_
      refine Ops.d (Det.lda Try.isAgg39 Try.sizeOf39 (lk rfl) (Rds.ow (m := 4) 2 rfl rfl) rfl) rfl ?_
      refine Ops.s (Stp.callOwn [4] rfl rfl Try.call23 (lks rfl) (fun E' le hat => up_g E' _ _ _ _ _ _ _ _ _) ?_) rfl
      rintro _ _ ⟨rfl, rfl⟩
      refine Ops.u (Dtu.asg (lk rfl)) rfl ?_
      refine Ops.nil ?_
      refine Then.next ?_
      refine Body.seq ?_
      refine Body.region ?_
      refine Ops.u (Dtu.asg (lk rfl)) rfl ?_
      refine Ops.nil ?_
      refine Then.next ?_
      refine Body.seq ?_
      refine Body.region ?_
      refine Ops.u (Dtu.mv (lk rfl)) rfl ?_
      refine Ops.u (Dtu.not (lk rfl)) rfl ?_
      refine Ops.nil ?_
      refine Then.next ?_
      refine Body.cond (lk rfl) (fun _ => ?_) (fun hn => absurd hn (by first | (rw [hd]; decide) | simp [hd]))
      refine Body.region ?_
      refine Ops.d (Det.lda Try.isAgg29 Try.sizeOf29 (lk rfl) (Rds.ow (m := 3) 4 rfl rfl) rfl) rfl ?_
      refine Ops.u (Dtu.fld fa41_1 (lk rfl)) rfl ?_
      refine Ops.d (Det.ld Try.isAgg3 (lk rfl) (Rd.ow 3 rfl rfl)) rfl ?_
      refine Ops.u (Dtu.fld fa41_2 (lk rfl)) rfl ?_
      refine Ops.d (Det.ld Try.isAgg3 (lk rfl) (Rd.ow 3 rfl rfl)) rfl ?_
      refine Ops.u (Dtu.mv (lk rfl)) rfl ?_
      refine Ops.d (Det.lda Try.isAgg49 Try.sizeOf49 (lk rfl) (Rds.ow (m := 11) 1 rfl rfl) rfl) rfl ?_
      refine Ops.s (Stp.call rfl Try.call77 (lks rfl) (fun E' le hat => rmove_ok E' _ _ _ _ _ _ _ _ _ (by first | assumption | omega) (by first | assumption | omega) (by first | assumption | omega) (by first | exact Sl.mono (by assumption) le | exact Sl.hatI hat 0 rfl | exact Sl.hatI hat 1 rfl | exact Sl.hatI hat 2 rfl | exact Sl.hatI hat 3 rfl | exact Sl.hatI hat 4 rfl | exact Sl.hatI hat 5 rfl | exact Sl.hatI hat 6 rfl | exact Sl.hatI hat 7 rfl | exact Sl.hatI hat 8 rfl | exact Sl.hatI hat 9 rfl | exact Sl.hatI hat 10 rfl | exact Sl.hatI hat 11 rfl | exact Sl.hatI hat 12 rfl | exact Sl.hatI hat 13 rfl | exact Sl.hatI hat 14 rfl | exact Sl.hatI hat 15 rfl)) ?_) rfl
      rintro _ _ ⟨ra129, rc129, rfl, rfl⟩
      refine Ops.e (Stp.store 5 Try.sizeOf29 (lk rfl) (lk rfl) rfl rfl rfl rfl rfl rfl rfl ?_)
      refine Ops.u (Dtu.asg (lk rfl)) rfl ?_
      refine Ops.nil ?_
      refine Blk.norm ?_
      refine Then.next ?_
      refine Body.seq ?_
      refine Body.region ?_
      refine Ops.d (Det.lda Try.isAgg29 Try.sizeOf29 (lk rfl) (Rds.ow (m := 3) 5 rfl rfl) rfl) rfl ?_
      refine Ops.u (Dtu.mv (lk rfl)) rfl ?_
      refine Ops.u (Dtu.mv (lk rfl)) rfl ?_
      refine Ops.u (Dtu.eql (lk rfl) (lk rfl)) rfl ?_
      refine Ops.e (Stp.store 3 Try.sizeOf29 (lk rfl) (lk rfl) rfl rfl rfl rfl rfl rfl rfl ?_)
      refine Ops.u (Dtu.asg (lk rfl)) rfl ?_
      refine Ops.nil ?_
      refine Then.next ?_
      refine Body.ret ?_
      exact ⟨.inr rfl, _, Loads.agg Try.isAgg29 Try.sizeOf29 (Rds.ow (m := 3) 3 rfl rfl) rfl, _, pk [1, 0] rfl, ra129, rc129, _, rfl, by rw [hr1, hr2, e]; rfl, by rw [← mv_up ok h, hr1, hr2]⟩
    · have e := erI_neg h
      have e2 : g.up oa ob n ⟨pt, fl, fg, bg⟩ = g := if_neg h
      have hd : decide (g.rows oa ob n) = false := decide_eq_false h
      refine Body.seq ?_
      refine Body.seq ?_
      refine Body.region ?_
      refine Ops.u (Dtu.fld fa41_0 (lk rfl)) rfl ?_
      refine Ops.d (Det.ld Try.isAgg3 (lk rfl) (Rd.ow 2 rfl rfl)) rfl ?_
      refine Ops.nil ?_
      refine Then.next ?_
      refine Body.block ?_
      refine Body.seq ?_
      refine Body.region ?_
      refine Ops.u (Dtu.eql (lk rfl) (lk rfl)) rfl ?_
      refine Ops.u (Dtu.asg (lk rfl)) rfl ?_
      refine Ops.nil ?_
      refine Then.next ?_
      refine Body.condP (lk rfl) (fun hy => absurd hy (by first | omega | assumption | decide)) (fun _ => ?_)
      refine Body.seq ?_
      refine Body.region ?_
      refine Ops.u (Dtu.eql (lk rfl) (lk rfl)) rfl ?_
      refine Ops.u (Dtu.asg (lk rfl)) rfl ?_
      refine Ops.nil ?_
      refine Then.next ?_
      refine Body.condP (lk rfl) (fun hy => absurd hy (by first | omega | assumption | decide)) (fun _ => ?_)
      refine Body.seq ?_
      refine Body.seq ?_
      refine Body.region ?_
      refine Ops.u (Dtu.eql (lk rfl) (lk rfl)) rfl ?_
      refine Ops.u (Dtu.asg (lk rfl)) rfl ?_
      refine Ops.nil ?_
      refine Then.next ?_
      refine Body.condP (lk rfl) (fun _ => ?_) (fun hn => absurd (by first | omega | assumption | decide) hn)
      refine Body.skip ?_
      refine Then.next ?_
      refine Body.condP (lk rfl) (fun _ => ?_) (fun hn => absurd (by first | omega | assumption | decide) hn)
      refine Body.seq ?_
      refine Body.seq ?_
      refine Body.region ?_
      refine Ops.u (Dtu.fld fa41_0 (lk rfl)) rfl ?_
      refine Ops.d (Det.ld Try.isAgg3 (lk rfl) (Rd.ow 2 rfl rfl)) rfl ?_
      refine Ops.u (Dtu.eql (lk rfl) (lk rfl)) rfl ?_
      refine Ops.nil ?_
      refine Then.next ?_
      refine Body.condP (lk rfl) (fun _ => ?_) (fun hn => absurd (by first | omega | assumption | decide) hn)
      refine Body.region ?_
      refine Ops.u (Dtu.mv (lk rfl)) rfl ?_
      refine Ops.u (Dtu.fld fa41_1 (lk rfl)) rfl ?_
      refine Ops.d (Det.ld Try.isAgg3 (lk rfl) (Rd.ow 2 rfl rfl)) rfl ?_
      refine Ops.u (Dtu.fld fa41_2 (lk rfl)) rfl ?_
      refine Ops.d (Det.ld Try.isAgg3 (lk rfl) (Rd.ow 2 rfl rfl)) rfl ?_
      refine Ops.u (Dtu.fld fa41_3 (lk rfl)) rfl ?_
      refine Ops.d (Det.ld Try.isAgg3 (lk rfl) (Rd.ow 2 rfl rfl)) rfl ?_
      refine Ops.u (Dtu.fld fa41_4 (lk rfl)) rfl ?_
      refine Ops.d (Det.lda Try.isAgg39 Try.sizeOf39 (lk rfl) (Rds.ow (m := 4) 2 rfl rfl) rfl) rfl ?_
      refine Ops.s (Stp.callOwn [4] rfl rfl Try.call23 (lks rfl) (fun E' le hat => up_g E' _ _ _ _ _ _ _ _ _) ?_) rfl
      rintro _ _ ⟨rfl, rfl⟩
      refine Ops.u (Dtu.asg (lk rfl)) rfl ?_
      refine Ops.nil ?_
      refine Then.next ?_
      refine Body.seq ?_
      refine Body.region ?_
      refine Ops.u (Dtu.asg (lk rfl)) rfl ?_
      refine Ops.nil ?_
      refine Then.next ?_
      refine Body.seq ?_
      refine Body.region ?_
      refine Ops.u (Dtu.mv (lk rfl)) rfl ?_
      refine Ops.u (Dtu.not (lk rfl)) rfl ?_
      refine Ops.nil ?_
      refine Then.next ?_
      refine Body.cond (lk rfl) (fun hn => absurd hn (by first | (rw [hd]; decide) | simp [hd])) (fun _ => ?_)
      refine Body.skip ?_
      refine Blk.norm ?_
      refine Then.next ?_
      refine Body.seq ?_
      refine Body.region ?_
      refine Ops.d (Det.lda Try.isAgg29 Try.sizeOf29 (lk rfl) (Rds.ow (m := 3) 4 rfl rfl) rfl) rfl ?_
      refine Ops.u (Dtu.mv (lk rfl)) rfl ?_
      refine Ops.u (Dtu.mv (lk rfl)) rfl ?_
      refine Ops.u (Dtu.eql (lk rfl) (lk rfl)) rfl ?_
      refine Ops.e (Stp.store 2 Try.sizeOf29 (lk rfl) (lk rfl) rfl rfl rfl rfl rfl rfl rfl ?_)
      refine Ops.u (Dtu.asg (lk rfl)) rfl ?_
      refine Ops.nil ?_
      refine Then.next ?_
      refine Body.ret ?_
      rw [e2]
      exact ⟨.inr rfl, _, Loads.agg Try.isAgg29 Try.sizeOf29 (Rds.ow (m := 3) 2 rfl rfl) rfl, _, pk [0, 4] rfl, a, m, g, rfl, by rw [e]; rfl, rfl⟩
  by_cases k3 : k = 3
  · subst k3
    have hg : g.op ⟨3, oa, ob, n, ⟨pt, fl, fg, bg⟩⟩ = g.down oa ob n ⟨pt, fl, fg, bg⟩ := rfl
    rw [hg]
    by_cases h : g.rows oa ob n
    · have e := erI_pos h
      have hr1 : (g.down oa ob n ⟨pt, fl, fg, bg⟩).r = g.r := by rw [Gd.down, if_pos h]
      have hr2 : (g.down oa ob n ⟨pt, fl, fg, bg⟩).c = g.c := by rw [Gd.down, if_pos h]
      have hh0 : g.rows oa ob 0 := ⟨h.1, h.2.1, h.2.2.1, by omega⟩
      have hd : decide (g.rows oa ob n) = true := decide_eq_true h
      refine Body.seq ?_
      refine Body.seq ?_
      refine Body.region ?_
      refine Ops.u (Dtu.fld fa41_0 (lk rfl)) rfl ?_
      refine Ops.d (Det.ld Try.isAgg3 (lk rfl) (Rd.ow 2 rfl rfl)) rfl ?_
      refine Ops.nil ?_
      refine Then.next ?_
      refine Body.block ?_
      refine Body.seq ?_
      refine Body.region ?_
      refine Ops.u (Dtu.eql (lk rfl) (lk rfl)) rfl ?_
      refine Ops.u (Dtu.asg (lk rfl)) rfl ?_
      refine Ops.nil ?_
      refine Then.next ?_
      refine Body.condP (lk rfl) (fun hy => absurd hy (by first | omega | assumption | decide)) (fun _ => ?_)
      refine Body.seq ?_
      refine Body.region ?_
      refine Ops.u (Dtu.eql (lk rfl) (lk rfl)) rfl ?_
      refine Ops.u (Dtu.asg (lk rfl)) rfl ?_
      refine Ops.nil ?_
      refine Then.next ?_
      refine Body.condP (lk rfl) (fun hy => absurd hy (by first | omega | assumption | decide)) (fun _ => ?_)
      refine Body.seq ?_
      refine Body.seq ?_
      refine Body.region ?_
      refine Ops.u (Dtu.eql (lk rfl) (lk rfl)) rfl ?_
      refine Ops.u (Dtu.asg (lk rfl)) rfl ?_
      refine Ops.nil ?_
      refine Then.next ?_
      refine Body.condP (lk rfl) (fun hy => absurd hy (by first | omega | assumption | decide)) (fun _ => ?_)
      refine Body.region ?_
      refine Ops.u (Dtu.eql (lk rfl) (lk rfl)) rfl ?_
      refine Ops.u (Dtu.asg (lk rfl)) rfl ?_
      refine Ops.nil ?_
      refine Then.next ?_
      refine Body.condP (lk rfl) (fun _ => ?_) (fun hn => absurd (by first | omega | assumption | decide) hn)
      refine Body.seq ?_
      refine Body.seq ?_
      refine Body.region ?_
      refine Ops.u (Dtu.fld fa41_0 (lk rfl)) rfl ?_
      refine Ops.d (Det.ld Try.isAgg3 (lk rfl) (Rd.ow 2 rfl rfl)) rfl ?_
      refine Ops.u (Dtu.eql (lk rfl) (lk rfl)) rfl ?_
      refine Ops.nil ?_
      refine Then.next ?_
      refine Body.condP (lk rfl) (fun hy => absurd hy (by first | omega | assumption | decide)) (fun _ => ?_)
      refine Body.seq ?_
      refine Body.region ?_
      refine Ops.u (Dtu.mv (lk rfl)) rfl ?_
      refine Ops.u (Dtu.fld fa41_1 (lk rfl)) rfl ?_
      refine Ops.d (Det.ld Try.isAgg3 (lk rfl) (Rd.ow 2 rfl rfl)) rfl ?_
      refine Ops.u (Dtu.fld fa41_2 (lk rfl)) rfl ?_
      refine Ops.d (Det.ld Try.isAgg3 (lk rfl) (Rd.ow 2 rfl rfl)) rfl ?_
      refine Ops.u (Dtu.fld fa41_3 (lk rfl)) rfl ?_
      refine Ops.d (Det.ld Try.isAgg3 (lk rfl) (Rd.ow 2 rfl rfl)) rfl ?_
      refine Ops.u (Dtu.fld fa41_4 (lk rfl)) rfl ?_
      refine Ops.d (Det.lda Try.isAgg39 Try.sizeOf39 (lk rfl) (Rds.ow (m := 4) 2 rfl rfl) rfl) rfl ?_
      refine Ops.s (Stp.callOwn [4] rfl rfl Try.call25 (lks rfl) (fun E' le hat => down_g E' _ _ _ _ _ _ _ _ _) ?_) rfl
      rintro _ _ ⟨rfl, rfl⟩
      refine Ops.u (Dtu.asg (lk rfl)) rfl ?_
      refine Ops.nil ?_
      refine Then.next ?_
      refine Body.region ?_
      refine Ops.u (Dtu.mv (lk rfl)) rfl ?_
      refine Ops.u (Dtu.sub (lk rfl) (lk rfl) (w64 (by omega) (by omega))) rfl ?_
      refine Ops.u (Dtu.asg (lk rfl)) rfl ?_
      refine Ops.nil ?_
      refine Then.next ?_
      refine Body.seq ?_
      refine Body.region ?_
      refine Ops.u (Dtu.asg (lk rfl)) rfl ?_
      refine Ops.nil ?_
      refine Then.next ?_
      refine Body.seq ?_
      refine Body.region ?_
      refine Ops.u (Dtu.mv (lk rfl)) rfl ?_
      refine Ops.u (Dtu.not (lk rfl)) rfl ?_
      refine Ops.nil ?_
      refine Then.next ?_
      refine Body.cond (lk rfl) (fun _ => ?_) (fun hn => absurd hn (by first | (rw [hd]; decide) | simp [hd]))
      refine Body.region ?_
      refine Ops.d (Det.lda Try.isAgg29 Try.sizeOf29 (lk rfl) (Rds.ow (m := 3) 4 rfl rfl) rfl) rfl ?_
      refine Ops.u (Dtu.fld fa41_1 (lk rfl)) rfl ?_
      refine Ops.d (Det.ld Try.isAgg3 (lk rfl) (Rd.ow 3 rfl rfl)) rfl ?_
      refine Ops.u (Dtu.fld fa41_2 (lk rfl)) rfl ?_
      refine Ops.d (Det.ld Try.isAgg3 (lk rfl) (Rd.ow 3 rfl rfl)) rfl ?_
      refine Ops.u (Dtu.mv (lk rfl)) rfl ?_
      refine Ops.d (Det.lda Try.isAgg49 Try.sizeOf49 (lk rfl) (Rds.ow (m := 11) 1 rfl rfl) rfl) rfl ?_
      refine Ops.s (Stp.call rfl Try.call77 (lks rfl) (fun E' le hat => rmove_ok E' _ _ _ _ _ _ _ _ _ (by first | assumption | omega) (by first | assumption | omega) (by first | assumption | omega) (by first | exact Sl.mono (by assumption) le | exact Sl.hatI hat 0 rfl | exact Sl.hatI hat 1 rfl | exact Sl.hatI hat 2 rfl | exact Sl.hatI hat 3 rfl | exact Sl.hatI hat 4 rfl | exact Sl.hatI hat 5 rfl | exact Sl.hatI hat 6 rfl | exact Sl.hatI hat 7 rfl | exact Sl.hatI hat 8 rfl | exact Sl.hatI hat 9 rfl | exact Sl.hatI hat 10 rfl | exact Sl.hatI hat 11 rfl | exact Sl.hatI hat 12 rfl | exact Sl.hatI hat 13 rfl | exact Sl.hatI hat 14 rfl | exact Sl.hatI hat 15 rfl)) ?_) rfl
      rintro _ _ ⟨ra129, rc129, rfl, rfl⟩
      refine Ops.e (Stp.store 5 Try.sizeOf29 (lk rfl) (lk rfl) rfl rfl rfl rfl rfl rfl rfl ?_)
      refine Ops.u (Dtu.asg (lk rfl)) rfl ?_
      refine Ops.nil ?_
      refine Blk.norm ?_
      refine Then.next ?_
      refine Body.seq ?_
      refine Body.region ?_
      refine Ops.d (Det.lda Try.isAgg29 Try.sizeOf29 (lk rfl) (Rds.ow (m := 3) 5 rfl rfl) rfl) rfl ?_
      refine Ops.u (Dtu.mv (lk rfl)) rfl ?_
      refine Ops.u (Dtu.mv (lk rfl)) rfl ?_
      refine Ops.u (Dtu.eql (lk rfl) (lk rfl)) rfl ?_
      refine Ops.e (Stp.store 3 Try.sizeOf29 (lk rfl) (lk rfl) rfl rfl rfl rfl rfl rfl rfl ?_)
      refine Ops.u (Dtu.asg (lk rfl)) rfl ?_
      refine Ops.nil ?_
      refine Then.next ?_
      refine Body.ret ?_
      exact ⟨.inr rfl, _, Loads.agg Try.isAgg29 Try.sizeOf29 (Rds.ow (m := 3) 3 rfl rfl) rfl, _, pk [1, 0] rfl, ra129, rc129, _, rfl, by rw [hr1, hr2, e]; rfl, by rw [← mv_down ok h, hr1, hr2]⟩
    · have e := erI_neg h
      have e2 : g.down oa ob n ⟨pt, fl, fg, bg⟩ = g := if_neg h
      have hd : decide (g.rows oa ob n) = false := decide_eq_false h
      refine Body.seq ?_
      refine Body.seq ?_
      refine Body.region ?_
      refine Ops.u (Dtu.fld fa41_0 (lk rfl)) rfl ?_
      refine Ops.d (Det.ld Try.isAgg3 (lk rfl) (Rd.ow 2 rfl rfl)) rfl ?_
      refine Ops.nil ?_
      refine Then.next ?_
      refine Body.block ?_
      refine Body.seq ?_
      refine Body.region ?_
      refine Ops.u (Dtu.eql (lk rfl) (lk rfl)) rfl ?_
      refine Ops.u (Dtu.asg (lk rfl)) rfl ?_
      refine Ops.nil ?_
      refine Then.next ?_
      refine Body.condP (lk rfl) (fun hy => absurd hy (by first | omega | assumption | decide)) (fun _ => ?_)
      refine Body.seq ?_
      refine Body.region ?_
      refine Ops.u (Dtu.eql (lk rfl) (lk rfl)) rfl ?_
      refine Ops.u (Dtu.asg (lk rfl)) rfl ?_
      refine Ops.nil ?_
      refine Then.next ?_
      refine Body.condP (lk rfl) (fun hy => absurd hy (by first | omega | assumption | decide)) (fun _ => ?_)
      refine Body.seq ?_
      refine Body.seq ?_
      refine Body.region ?_
      refine Ops.u (Dtu.eql (lk rfl) (lk rfl)) rfl ?_
      refine Ops.u (Dtu.asg (lk rfl)) rfl ?_
      refine Ops.nil ?_
      refine Then.next ?_
      refine Body.condP (lk rfl) (fun hy => absurd hy (by first | omega | assumption | decide)) (fun _ => ?_)
      refine Body.region ?_
      refine Ops.u (Dtu.eql (lk rfl) (lk rfl)) rfl ?_
      refine Ops.u (Dtu.asg (lk rfl)) rfl ?_
      refine Ops.nil ?_
      refine Then.next ?_
      refine Body.condP (lk rfl) (fun _ => ?_) (fun hn => absurd (by first | omega | assumption | decide) hn)
      refine Body.seq ?_
      refine Body.seq ?_
      refine Body.region ?_
      refine Ops.u (Dtu.fld fa41_0 (lk rfl)) rfl ?_
      refine Ops.d (Det.ld Try.isAgg3 (lk rfl) (Rd.ow 2 rfl rfl)) rfl ?_
      refine Ops.u (Dtu.eql (lk rfl) (lk rfl)) rfl ?_
      refine Ops.nil ?_
      refine Then.next ?_
      refine Body.condP (lk rfl) (fun hy => absurd hy (by first | omega | assumption | decide)) (fun _ => ?_)
      refine Body.seq ?_
      refine Body.region ?_
      refine Ops.u (Dtu.mv (lk rfl)) rfl ?_
      refine Ops.u (Dtu.fld fa41_1 (lk rfl)) rfl ?_
      refine Ops.d (Det.ld Try.isAgg3 (lk rfl) (Rd.ow 2 rfl rfl)) rfl ?_
      refine Ops.u (Dtu.fld fa41_2 (lk rfl)) rfl ?_
      refine Ops.d (Det.ld Try.isAgg3 (lk rfl) (Rd.ow 2 rfl rfl)) rfl ?_
      refine Ops.u (Dtu.fld fa41_3 (lk rfl)) rfl ?_
      refine Ops.d (Det.ld Try.isAgg3 (lk rfl) (Rd.ow 2 rfl rfl)) rfl ?_
      refine Ops.u (Dtu.fld fa41_4 (lk rfl)) rfl ?_
      refine Ops.d (Det.lda Try.isAgg39 Try.sizeOf39 (lk rfl) (Rds.ow (m := 4) 2 rfl rfl) rfl) rfl ?_
      refine Ops.s (Stp.callOwn [4] rfl rfl Try.call25 (lks rfl) (fun E' le hat => down_g E' _ _ _ _ _ _ _ _ _) ?_) rfl
      rintro _ _ ⟨rfl, rfl⟩
      refine Ops.u (Dtu.asg (lk rfl)) rfl ?_
      refine Ops.nil ?_
      refine Then.next ?_
      refine Body.region ?_
      refine Ops.u (Dtu.mv (lk rfl)) rfl ?_
      refine Ops.u (Dtu.sub (lk rfl) (lk rfl) (w64 (by omega) (by omega))) rfl ?_
      refine Ops.u (Dtu.asg (lk rfl)) rfl ?_
      refine Ops.nil ?_
      refine Then.next ?_
      refine Body.seq ?_
      refine Body.region ?_
      refine Ops.u (Dtu.asg (lk rfl)) rfl ?_
      refine Ops.nil ?_
      refine Then.next ?_
      refine Body.seq ?_
      refine Body.region ?_
      refine Ops.u (Dtu.mv (lk rfl)) rfl ?_
      refine Ops.u (Dtu.not (lk rfl)) rfl ?_
      refine Ops.nil ?_
      refine Then.next ?_
      refine Body.cond (lk rfl) (fun hn => absurd hn (by first | (rw [hd]; decide) | simp [hd])) (fun _ => ?_)
      refine Body.skip ?_
      refine Blk.norm ?_
      refine Then.next ?_
      refine Body.seq ?_
      refine Body.region ?_
      refine Ops.d (Det.lda Try.isAgg29 Try.sizeOf29 (lk rfl) (Rds.ow (m := 3) 4 rfl rfl) rfl) rfl ?_
      refine Ops.u (Dtu.mv (lk rfl)) rfl ?_
      refine Ops.u (Dtu.mv (lk rfl)) rfl ?_
      refine Ops.u (Dtu.eql (lk rfl) (lk rfl)) rfl ?_
      refine Ops.e (Stp.store 2 Try.sizeOf29 (lk rfl) (lk rfl) rfl rfl rfl rfl rfl rfl rfl ?_)
      refine Ops.u (Dtu.asg (lk rfl)) rfl ?_
      refine Ops.nil ?_
      refine Then.next ?_
      refine Body.ret ?_
      rw [e2]
      exact ⟨.inr rfl, _, Loads.agg Try.isAgg29 Try.sizeOf29 (Rds.ow (m := 3) 2 rfl rfl) rfl, _, pk [0, 4] rfl, a, m, g, rfl, by rw [e]; rfl, rfl⟩
  by_cases k4 : k = 4
  · subst k4
    have hg : g.op ⟨4, oa, ob, n, ⟨pt, fl, fg, bg⟩⟩ = g.ins oa ob n ⟨pt, fl, fg, bg⟩ := rfl
    rw [hg]
    by_cases h : g.has oa ob ∧ 0 ≤ n
    · have e := erI_pos h
      have hr1 : (g.ins oa ob n ⟨pt, fl, fg, bg⟩).r = g.r := by rw [Gd.ins, if_pos h]
      have hr2 : (g.ins oa ob n ⟨pt, fl, fg, bg⟩).c = g.c := by rw [Gd.ins, if_pos h]
      have hh0 := h.1
      have hn := h.2
      have hd := decide_eq_true h.1
      refine Body.seq ?_
      refine Body.seq ?_
      refine Body.region ?_
      refine Ops.u (Dtu.fld fa41_0 (lk rfl)) rfl ?_
      refine Ops.d (Det.ld Try.isAgg3 (lk rfl) (Rd.ow 2 rfl rfl)) rfl ?_
      refine Ops.nil ?_
      refine Then.next ?_
      refine Body.block ?_
      refine Body.seq ?_
      refine Body.region ?_
      refine Ops.u (Dtu.eql (lk rfl) (lk rfl)) rfl ?_
      refine Ops.u (Dtu.asg (lk rfl)) rfl ?_
      refine Ops.nil ?_
      refine Then.next ?_
      refine Body.condP (lk rfl) (fun hy => absurd hy (by first | omega | assumption | decide)) (fun _ => ?_)
      refine Body.seq ?_
      refine Body.region ?_
      refine Ops.u (Dtu.eql (lk rfl) (lk rfl)) rfl ?_
      refine Ops.u (Dtu.asg (lk rfl)) rfl ?_
      refine Ops.nil ?_
      refine Then.next ?_
      refine Body.condP (lk rfl) (fun hy => absurd hy (by first | omega | assumption | decide)) (fun _ => ?_)
      refine Body.seq ?_
      refine Body.seq ?_
      refine Body.region ?_
      refine Ops.u (Dtu.eql (lk rfl) (lk rfl)) rfl ?_
      refine Ops.u (Dtu.asg (lk rfl)) rfl ?_
      refine Ops.nil ?_
      refine Then.next ?_
      refine Body.condP (lk rfl) (fun hy => absurd hy (by first | omega | assumption | decide)) (fun _ => ?_)
      refine Body.region ?_
      refine Ops.u (Dtu.eql (lk rfl) (lk rfl)) rfl ?_
      refine Ops.u (Dtu.asg (lk rfl)) rfl ?_
      refine Ops.nil ?_
      refine Then.next ?_
      refine Body.condP (lk rfl) (fun hy => absurd hy (by first | omega | assumption | decide)) (fun _ => ?_)
      refine Body.seq ?_
      refine Body.seq ?_
      refine Body.region ?_
      refine Ops.u (Dtu.eql (lk rfl) (lk rfl)) rfl ?_
      refine Ops.u (Dtu.asg (lk rfl)) rfl ?_
      refine Ops.nil ?_
      refine Then.next ?_
      refine Body.condP (lk rfl) (fun _ => ?_) (fun hn => absurd (by first | omega | assumption | decide) hn)
      refine Body.skip ?_
      refine Then.next ?_
      refine Body.condP (lk rfl) (fun _ => ?_) (fun hn => absurd (by first | omega | assumption | decide) hn)
      refine Body.seq ?_
      refine Body.seq ?_
      refine Body.region ?_
      refine Ops.u (Dtu.fld fa41_0 (lk rfl)) rfl ?_
      refine Ops.d (Det.ld Try.isAgg3 (lk rfl) (Rd.ow 2 rfl rfl)) rfl ?_
      refine Ops.u (Dtu.eql (lk rfl) (lk rfl)) rfl ?_
      refine Ops.nil ?_
      refine Then.next ?_
      refine Body.condP (lk rfl) (fun _ => ?_) (fun hn => absurd (by first | omega | assumption | decide) hn)
      refine Body.seq ?_
      refine Body.region ?_
      refine Ops.u (Dtu.mv (lk rfl)) rfl ?_
      refine Ops.u (Dtu.fld fa41_1 (lk rfl)) rfl ?_
      refine Ops.d (Det.ld Try.isAgg3 (lk rfl) (Rd.ow 2 rfl rfl)) rfl ?_
      refine Ops.u (Dtu.fld fa41_2 (lk rfl)) rfl ?_
      refine Ops.d (Det.ld Try.isAgg3 (lk rfl) (Rd.ow 2 rfl rfl)) rfl ?_
      refine Ops.u (Dtu.fld fa41_3 (lk rfl)) rfl ?_
      refine Ops.d (Det.ld Try.isAgg3 (lk rfl) (Rd.ow 2 rfl rfl)) rfl ?_
      refine Ops.u (Dtu.fld fa41_4 (lk rfl)) rfl ?_
      refine Ops.d (Det.lda Try.isAgg39 Try.sizeOf39 (lk rfl) (Rds.ow (m := 4) 2 rfl rfl) rfl) rfl ?_
      refine Ops.s (Stp.callOwn [4] rfl rfl Try.call26 (lks rfl) (fun E' le hat => insert_g E' _ _ _ _ _ _ _ _ _) ?_) rfl
      rintro _ _ ⟨rfl, rfl⟩
      refine Ops.u (Dtu.asg (lk rfl)) rfl ?_
      refine Ops.nil ?_
      refine Then.next ?_
      refine Body.region ?_
      refine Ops.u (Dtu.mv (lk rfl)) rfl ?_
      refine Ops.u (Dtu.sub (lk rfl) (lk rfl) (w64 (by omega) (by omega))) rfl ?_
      refine Ops.u (Dtu.asg (lk rfl)) rfl ?_
      refine Ops.nil ?_
      refine Then.next ?_
      refine Body.seq ?_
      refine Body.region ?_
      refine Ops.u (Dtu.asg (lk rfl)) rfl ?_
      refine Ops.nil ?_
      refine Then.next ?_
      refine Body.seq ?_
      refine Body.region ?_
      refine Ops.d (Det.lda Try.isAgg29 Try.sizeOf29 (lk rfl) (Rds.ow (m := 3) 4 rfl rfl) rfl) rfl ?_
      refine Ops.u (Dtu.fld fa41_1 (lk rfl)) rfl ?_
      refine Ops.d (Det.ld Try.isAgg3 (lk rfl) (Rd.ow 3 rfl rfl)) rfl ?_
      refine Ops.u (Dtu.fld fa41_2 (lk rfl)) rfl ?_
      refine Ops.d (Det.ld Try.isAgg3 (lk rfl) (Rd.ow 3 rfl rfl)) rfl ?_
      refine Ops.s (Stp.call rfl Try.call17 (lks rfl) (fun E' le hat => rhas_ok E' _ _ _ _ ⟨_, _, _, rfl⟩) ?_) rfl
      rintro _ _ ⟨rfl, rfl⟩
      refine Ops.u (Dtu.mv (lk rfl)) rfl ?_
      refine Ops.decP 164 rfl (fun _ => ?_) (fun hn => absurd (by first | omega | assumption | decide) hn)
      refine Ops.gu rfl rfl rfl (Dtu.fld fa41_3 (lk rfl)) rfl ?_
      refine Ops.gd rfl rfl rfl (Det.ld Try.isAgg3 (lk rfl) (Rd.ow 3 rfl rfl)) rfl ?_
      refine Ops.gu rfl rfl rfl (Dtu.geq (lk rfl) (lk rfl)) rfl ?_
      refine Ops.u (Dtu.pickT (lk rfl) (lk rfl)) rfl ?_
      refine Ops.nil ?_
      refine Then.next ?_
      refine Body.condP (lk rfl) (fun _ => ?_) (fun hn => absurd (by first | omega | assumption | decide) hn)
      refine Body.region ?_
      refine Ops.d (Det.lda Try.isAgg29 Try.sizeOf29 (lk rfl) (Rds.ow (m := 3) 4 rfl rfl) rfl) rfl ?_
      refine Ops.u (Dtu.fld fa41_1 (lk rfl)) rfl ?_
      refine Ops.d (Det.ld Try.isAgg3 (lk rfl) (Rd.ow 3 rfl rfl)) rfl ?_
      refine Ops.u (Dtu.fld fa41_2 (lk rfl)) rfl ?_
      refine Ops.d (Det.ld Try.isAgg3 (lk rfl) (Rd.ow 3 rfl rfl)) rfl ?_
      refine Ops.u (Dtu.mv (lk rfl)) rfl ?_
      refine Ops.d (Det.lda Try.isAgg49 Try.sizeOf49 (lk rfl) (Rds.ow (m := 11) 1 rfl rfl) rfl) rfl ?_
      refine Ops.s (Stp.call rfl Try.call78 (lks rfl) (fun E' le hat => rshift_ok E' _ _ _ _ _ _ _ _ _ (by first | assumption | omega) (by first | assumption | omega) (by first | assumption | omega) (by first | exact Sl.mono (by assumption) le | exact Sl.hatI hat 0 rfl | exact Sl.hatI hat 1 rfl | exact Sl.hatI hat 2 rfl | exact Sl.hatI hat 3 rfl | exact Sl.hatI hat 4 rfl | exact Sl.hatI hat 5 rfl | exact Sl.hatI hat 6 rfl | exact Sl.hatI hat 7 rfl | exact Sl.hatI hat 8 rfl | exact Sl.hatI hat 9 rfl | exact Sl.hatI hat 10 rfl | exact Sl.hatI hat 11 rfl | exact Sl.hatI hat 12 rfl | exact Sl.hatI hat 13 rfl | exact Sl.hatI hat 14 rfl | exact Sl.hatI hat 15 rfl)) ?_) rfl
      rintro _ _ ⟨ra176, rc176, rfl, rfl⟩
      refine Ops.e (Stp.store 5 Try.sizeOf29 (lk rfl) (lk rfl) rfl rfl rfl rfl rfl rfl rfl ?_)
      refine Ops.u (Dtu.asg (lk rfl)) rfl ?_
      refine Ops.nil ?_
      refine Blk.norm ?_
      refine Then.next ?_
      refine Body.seq ?_
      refine Body.region ?_
      refine Ops.d (Det.lda Try.isAgg29 Try.sizeOf29 (lk rfl) (Rds.ow (m := 3) 5 rfl rfl) rfl) rfl ?_
      refine Ops.u (Dtu.mv (lk rfl)) rfl ?_
      refine Ops.u (Dtu.mv (lk rfl)) rfl ?_
      refine Ops.u (Dtu.eql (lk rfl) (lk rfl)) rfl ?_
      refine Ops.e (Stp.store 3 Try.sizeOf29 (lk rfl) (lk rfl) rfl rfl rfl rfl rfl rfl rfl ?_)
      refine Ops.u (Dtu.asg (lk rfl)) rfl ?_
      refine Ops.nil ?_
      refine Then.next ?_
      refine Body.ret ?_
      exact ⟨.inr rfl, _, Loads.agg Try.isAgg29 Try.sizeOf29 (Rds.ow (m := 3) 3 rfl rfl) rfl, _, pk [1, 0] rfl, ra176, rc176, _, rfl, by rw [hr1, hr2, e]; rfl, by rw [← sh_ins ok h, hr1, hr2]⟩
    · have e := erI_neg h
      have e2 : g.ins oa ob n ⟨pt, fl, fg, bg⟩ = g := if_neg h
      by_cases hhs : g.has oa ob
      · have hd := decide_eq_true hhs
        have hn : ¬ 0 ≤ n := fun hn => h ⟨hhs, hn⟩
        refine Body.seq ?_
        refine Body.seq ?_
        refine Body.region ?_
        refine Ops.u (Dtu.fld fa41_0 (lk rfl)) rfl ?_
        refine Ops.d (Det.ld Try.isAgg3 (lk rfl) (Rd.ow 2 rfl rfl)) rfl ?_
        refine Ops.nil ?_
        refine Then.next ?_
        refine Body.block ?_
        refine Body.seq ?_
        refine Body.region ?_
        refine Ops.u (Dtu.eql (lk rfl) (lk rfl)) rfl ?_
        refine Ops.u (Dtu.asg (lk rfl)) rfl ?_
        refine Ops.nil ?_
        refine Then.next ?_
        refine Body.condP (lk rfl) (fun hy => absurd hy (by first | omega | assumption | decide)) (fun _ => ?_)
        refine Body.seq ?_
        refine Body.region ?_
        refine Ops.u (Dtu.eql (lk rfl) (lk rfl)) rfl ?_
        refine Ops.u (Dtu.asg (lk rfl)) rfl ?_
        refine Ops.nil ?_
        refine Then.next ?_
        refine Body.condP (lk rfl) (fun hy => absurd hy (by first | omega | assumption | decide)) (fun _ => ?_)
        refine Body.seq ?_
        refine Body.seq ?_
        refine Body.region ?_
        refine Ops.u (Dtu.eql (lk rfl) (lk rfl)) rfl ?_
        refine Ops.u (Dtu.asg (lk rfl)) rfl ?_
        refine Ops.nil ?_
        refine Then.next ?_
        refine Body.condP (lk rfl) (fun hy => absurd hy (by first | omega | assumption | decide)) (fun _ => ?_)
        refine Body.region ?_
        refine Ops.u (Dtu.eql (lk rfl) (lk rfl)) rfl ?_
        refine Ops.u (Dtu.asg (lk rfl)) rfl ?_
        refine Ops.nil ?_
        refine Then.next ?_
        refine Body.condP (lk rfl) (fun hy => absurd hy (by first | omega | assumption | decide)) (fun _ => ?_)
        refine Body.seq ?_
        refine Body.seq ?_
        refine Body.region ?_
        refine Ops.u (Dtu.eql (lk rfl) (lk rfl)) rfl ?_
        refine Ops.u (Dtu.asg (lk rfl)) rfl ?_
        refine Ops.nil ?_
        refine Then.next ?_
        refine Body.condP (lk rfl) (fun _ => ?_) (fun hn => absurd (by first | omega | assumption | decide) hn)
        refine Body.skip ?_
        refine Then.next ?_
        refine Body.condP (lk rfl) (fun _ => ?_) (fun hn => absurd (by first | omega | assumption | decide) hn)
        refine Body.seq ?_
        refine Body.seq ?_
        refine Body.region ?_
        refine Ops.u (Dtu.fld fa41_0 (lk rfl)) rfl ?_
        refine Ops.d (Det.ld Try.isAgg3 (lk rfl) (Rd.ow 2 rfl rfl)) rfl ?_
        refine Ops.u (Dtu.eql (lk rfl) (lk rfl)) rfl ?_
        refine Ops.nil ?_
        refine Then.next ?_
        refine Body.condP (lk rfl) (fun _ => ?_) (fun hn => absurd (by first | omega | assumption | decide) hn)
        refine Body.seq ?_
        refine Body.region ?_
        refine Ops.u (Dtu.mv (lk rfl)) rfl ?_
        refine Ops.u (Dtu.fld fa41_1 (lk rfl)) rfl ?_
        refine Ops.d (Det.ld Try.isAgg3 (lk rfl) (Rd.ow 2 rfl rfl)) rfl ?_
        refine Ops.u (Dtu.fld fa41_2 (lk rfl)) rfl ?_
        refine Ops.d (Det.ld Try.isAgg3 (lk rfl) (Rd.ow 2 rfl rfl)) rfl ?_
        refine Ops.u (Dtu.fld fa41_3 (lk rfl)) rfl ?_
        refine Ops.d (Det.ld Try.isAgg3 (lk rfl) (Rd.ow 2 rfl rfl)) rfl ?_
        refine Ops.u (Dtu.fld fa41_4 (lk rfl)) rfl ?_
        refine Ops.d (Det.lda Try.isAgg39 Try.sizeOf39 (lk rfl) (Rds.ow (m := 4) 2 rfl rfl) rfl) rfl ?_
        refine Ops.s (Stp.callOwn [4] rfl rfl Try.call26 (lks rfl) (fun E' le hat => insert_g E' _ _ _ _ _ _ _ _ _) ?_) rfl
        rintro _ _ ⟨rfl, rfl⟩
        refine Ops.u (Dtu.asg (lk rfl)) rfl ?_
        refine Ops.nil ?_
        refine Then.next ?_
        refine Body.region ?_
        refine Ops.u (Dtu.mv (lk rfl)) rfl ?_
        refine Ops.u (Dtu.sub (lk rfl) (lk rfl) (w64 (by omega) (by omega))) rfl ?_
        refine Ops.u (Dtu.asg (lk rfl)) rfl ?_
        refine Ops.nil ?_
        refine Then.next ?_
        refine Body.seq ?_
        refine Body.region ?_
        refine Ops.u (Dtu.asg (lk rfl)) rfl ?_
        refine Ops.nil ?_
        refine Then.next ?_
        refine Body.seq ?_
        refine Body.region ?_
        refine Ops.d (Det.lda Try.isAgg29 Try.sizeOf29 (lk rfl) (Rds.ow (m := 3) 4 rfl rfl) rfl) rfl ?_
        refine Ops.u (Dtu.fld fa41_1 (lk rfl)) rfl ?_
        refine Ops.d (Det.ld Try.isAgg3 (lk rfl) (Rd.ow 3 rfl rfl)) rfl ?_
        refine Ops.u (Dtu.fld fa41_2 (lk rfl)) rfl ?_
        refine Ops.d (Det.ld Try.isAgg3 (lk rfl) (Rd.ow 3 rfl rfl)) rfl ?_
        refine Ops.s (Stp.call rfl Try.call17 (lks rfl) (fun E' le hat => rhas_ok E' _ _ _ _ ⟨_, _, _, rfl⟩) ?_) rfl
        rintro _ _ ⟨rfl, rfl⟩
        refine Ops.u (Dtu.mv (lk rfl)) rfl ?_
        refine Ops.decP 164 rfl (fun _ => ?_) (fun hn => absurd (by first | omega | assumption | decide) hn)
        refine Ops.gu rfl rfl rfl (Dtu.fld fa41_3 (lk rfl)) rfl ?_
        refine Ops.gd rfl rfl rfl (Det.ld Try.isAgg3 (lk rfl) (Rd.ow 3 rfl rfl)) rfl ?_
        refine Ops.gu rfl rfl rfl (Dtu.geq (lk rfl) (lk rfl)) rfl ?_
        refine Ops.u (Dtu.pickT (lk rfl) (lk rfl)) rfl ?_
        refine Ops.nil ?_
        refine Then.next ?_
        refine Body.condP (lk rfl) (fun hy => absurd hy (by first | omega | assumption | decide)) (fun _ => ?_)
        refine Body.skip ?_
        refine Blk.norm ?_
        refine Then.next ?_
        refine Body.seq ?_
        refine Body.region ?_
        refine Ops.d (Det.lda Try.isAgg29 Try.sizeOf29 (lk rfl) (Rds.ow (m := 3) 4 rfl rfl) rfl) rfl ?_
        refine Ops.u (Dtu.mv (lk rfl)) rfl ?_
        refine Ops.u (Dtu.mv (lk rfl)) rfl ?_
        refine Ops.u (Dtu.eql (lk rfl) (lk rfl)) rfl ?_
        refine Ops.e (Stp.store 2 Try.sizeOf29 (lk rfl) (lk rfl) rfl rfl rfl rfl rfl rfl rfl ?_)
        refine Ops.u (Dtu.asg (lk rfl)) rfl ?_
        refine Ops.nil ?_
        refine Then.next ?_
        refine Body.ret ?_
        rw [e2]
        exact ⟨.inr rfl, _, Loads.agg Try.isAgg29 Try.sizeOf29 (Rds.ow (m := 3) 2 rfl rfl) rfl, _, pk [0, 4] rfl, a, m, g, rfl, by rw [e]; rfl, rfl⟩
      · have hd := decide_eq_false hhs
        refine Body.seq ?_
        refine Body.seq ?_
        refine Body.region ?_
        refine Ops.u (Dtu.fld fa41_0 (lk rfl)) rfl ?_
        refine Ops.d (Det.ld Try.isAgg3 (lk rfl) (Rd.ow 2 rfl rfl)) rfl ?_
        refine Ops.nil ?_
        refine Then.next ?_
        refine Body.block ?_
        refine Body.seq ?_
        refine Body.region ?_
        refine Ops.u (Dtu.eql (lk rfl) (lk rfl)) rfl ?_
        refine Ops.u (Dtu.asg (lk rfl)) rfl ?_
        refine Ops.nil ?_
        refine Then.next ?_
        refine Body.condP (lk rfl) (fun hy => absurd hy (by first | omega | assumption | decide)) (fun _ => ?_)
        refine Body.seq ?_
        refine Body.region ?_
        refine Ops.u (Dtu.eql (lk rfl) (lk rfl)) rfl ?_
        refine Ops.u (Dtu.asg (lk rfl)) rfl ?_
        refine Ops.nil ?_
        refine Then.next ?_
        refine Body.condP (lk rfl) (fun hy => absurd hy (by first | omega | assumption | decide)) (fun _ => ?_)
        refine Body.seq ?_
        refine Body.seq ?_
        refine Body.region ?_
        refine Ops.u (Dtu.eql (lk rfl) (lk rfl)) rfl ?_
        refine Ops.u (Dtu.asg (lk rfl)) rfl ?_
        refine Ops.nil ?_
        refine Then.next ?_
        refine Body.condP (lk rfl) (fun hy => absurd hy (by first | omega | assumption | decide)) (fun _ => ?_)
        refine Body.region ?_
        refine Ops.u (Dtu.eql (lk rfl) (lk rfl)) rfl ?_
        refine Ops.u (Dtu.asg (lk rfl)) rfl ?_
        refine Ops.nil ?_
        refine Then.next ?_
        refine Body.condP (lk rfl) (fun hy => absurd hy (by first | omega | assumption | decide)) (fun _ => ?_)
        refine Body.seq ?_
        refine Body.seq ?_
        refine Body.region ?_
        refine Ops.u (Dtu.eql (lk rfl) (lk rfl)) rfl ?_
        refine Ops.u (Dtu.asg (lk rfl)) rfl ?_
        refine Ops.nil ?_
        refine Then.next ?_
        refine Body.condP (lk rfl) (fun _ => ?_) (fun hn => absurd (by first | omega | assumption | decide) hn)
        refine Body.skip ?_
        refine Then.next ?_
        refine Body.condP (lk rfl) (fun _ => ?_) (fun hn => absurd (by first | omega | assumption | decide) hn)
        refine Body.seq ?_
        refine Body.seq ?_
        refine Body.region ?_
        refine Ops.u (Dtu.fld fa41_0 (lk rfl)) rfl ?_
        refine Ops.d (Det.ld Try.isAgg3 (lk rfl) (Rd.ow 2 rfl rfl)) rfl ?_
        refine Ops.u (Dtu.eql (lk rfl) (lk rfl)) rfl ?_
        refine Ops.nil ?_
        refine Then.next ?_
        refine Body.condP (lk rfl) (fun _ => ?_) (fun hn => absurd (by first | omega | assumption | decide) hn)
        refine Body.seq ?_
        refine Body.region ?_
        refine Ops.u (Dtu.mv (lk rfl)) rfl ?_
        refine Ops.u (Dtu.fld fa41_1 (lk rfl)) rfl ?_
        refine Ops.d (Det.ld Try.isAgg3 (lk rfl) (Rd.ow 2 rfl rfl)) rfl ?_
        refine Ops.u (Dtu.fld fa41_2 (lk rfl)) rfl ?_
        refine Ops.d (Det.ld Try.isAgg3 (lk rfl) (Rd.ow 2 rfl rfl)) rfl ?_
        refine Ops.u (Dtu.fld fa41_3 (lk rfl)) rfl ?_
        refine Ops.d (Det.ld Try.isAgg3 (lk rfl) (Rd.ow 2 rfl rfl)) rfl ?_
        refine Ops.u (Dtu.fld fa41_4 (lk rfl)) rfl ?_
        refine Ops.d (Det.lda Try.isAgg39 Try.sizeOf39 (lk rfl) (Rds.ow (m := 4) 2 rfl rfl) rfl) rfl ?_
        refine Ops.s (Stp.callOwn [4] rfl rfl Try.call26 (lks rfl) (fun E' le hat => insert_g E' _ _ _ _ _ _ _ _ _) ?_) rfl
        rintro _ _ ⟨rfl, rfl⟩
        refine Ops.u (Dtu.asg (lk rfl)) rfl ?_
        refine Ops.nil ?_
        refine Then.next ?_
        refine Body.region ?_
        refine Ops.u (Dtu.mv (lk rfl)) rfl ?_
        refine Ops.u (Dtu.sub (lk rfl) (lk rfl) (w64 (by omega) (by omega))) rfl ?_
        refine Ops.u (Dtu.asg (lk rfl)) rfl ?_
        refine Ops.nil ?_
        refine Then.next ?_
        refine Body.seq ?_
        refine Body.region ?_
        refine Ops.u (Dtu.asg (lk rfl)) rfl ?_
        refine Ops.nil ?_
        refine Then.next ?_
        refine Body.seq ?_
        refine Body.region ?_
        refine Ops.d (Det.lda Try.isAgg29 Try.sizeOf29 (lk rfl) (Rds.ow (m := 3) 4 rfl rfl) rfl) rfl ?_
        refine Ops.u (Dtu.fld fa41_1 (lk rfl)) rfl ?_
        refine Ops.d (Det.ld Try.isAgg3 (lk rfl) (Rd.ow 3 rfl rfl)) rfl ?_
        refine Ops.u (Dtu.fld fa41_2 (lk rfl)) rfl ?_
        refine Ops.d (Det.ld Try.isAgg3 (lk rfl) (Rd.ow 3 rfl rfl)) rfl ?_
        refine Ops.s (Stp.call rfl Try.call17 (lks rfl) (fun E' le hat => rhas_ok E' _ _ _ _ ⟨_, _, _, rfl⟩) ?_) rfl
        rintro _ _ ⟨rfl, rfl⟩
        refine Ops.u (Dtu.mv (lk rfl)) rfl ?_
        refine Ops.decP 164 rfl (fun hy => absurd hy (by first | omega | assumption | decide)) (fun _ => ?_)
        refine Ops.gn rfl rfl rfl rfl rfl ?_
        refine Ops.gn rfl rfl rfl rfl rfl ?_
        refine Ops.gn rfl rfl rfl rfl rfl ?_
        refine Ops.u (Dtu.pickF (lk rfl) (lk rfl)) rfl ?_
        refine Ops.nil ?_
        refine Then.next ?_
        refine Body.condF (lk rfl) ?_
        refine Body.skip ?_
        refine Blk.norm ?_
        refine Then.next ?_
        refine Body.seq ?_
        refine Body.region ?_
        refine Ops.d (Det.lda Try.isAgg29 Try.sizeOf29 (lk rfl) (Rds.ow (m := 3) 4 rfl rfl) rfl) rfl ?_
        refine Ops.u (Dtu.mv (lk rfl)) rfl ?_
        refine Ops.u (Dtu.mv (lk rfl)) rfl ?_
        refine Ops.u (Dtu.eql (lk rfl) (lk rfl)) rfl ?_
        refine Ops.e (Stp.store 2 Try.sizeOf29 (lk rfl) (lk rfl) rfl rfl rfl rfl rfl rfl rfl ?_)
        refine Ops.u (Dtu.asg (lk rfl)) rfl ?_
        refine Ops.nil ?_
        refine Then.next ?_
        refine Body.ret ?_
        rw [e2]
        exact ⟨.inr rfl, _, Loads.agg Try.isAgg29 Try.sizeOf29 (Rds.ow (m := 3) 2 rfl rfl) rfl, _, pk [0, 4] rfl, a, m, g, rfl, by rw [e]; rfl, rfl⟩
  by_cases k5 : k = 5
  · subst k5
    have hg : g.op ⟨5, oa, ob, n, ⟨pt, fl, fg, bg⟩⟩ = g.del oa ob n ⟨pt, fl, fg, bg⟩ := rfl
    rw [hg]
    by_cases h : g.has oa ob ∧ 0 ≤ n
    · have e := erI_pos h
      have hr1 : (g.del oa ob n ⟨pt, fl, fg, bg⟩).r = g.r := by rw [Gd.del, if_pos h]
      have hr2 : (g.del oa ob n ⟨pt, fl, fg, bg⟩).c = g.c := by rw [Gd.del, if_pos h]
      have hh0 := h.1
      have hn := h.2
      have hd := decide_eq_true h.1
      refine Body.seq ?_
      refine Body.seq ?_
      refine Body.region ?_
      refine Ops.u (Dtu.fld fa41_0 (lk rfl)) rfl ?_
      refine Ops.d (Det.ld Try.isAgg3 (lk rfl) (Rd.ow 2 rfl rfl)) rfl ?_
      refine Ops.nil ?_
      refine Then.next ?_
      refine Body.block ?_
      refine Body.seq ?_
      refine Body.region ?_
      refine Ops.u (Dtu.eql (lk rfl) (lk rfl)) rfl ?_
      refine Ops.u (Dtu.asg (lk rfl)) rfl ?_
      refine Ops.nil ?_
      refine Then.next ?_
      refine Body.condP (lk rfl) (fun hy => absurd hy (by first | omega | assumption | decide)) (fun _ => ?_)
      refine Body.seq ?_
      refine Body.region ?_
      refine Ops.u (Dtu.eql (lk rfl) (lk rfl)) rfl ?_
      refine Ops.u (Dtu.asg (lk rfl)) rfl ?_
      refine Ops.nil ?_
      refine Then.next ?_
      refine Body.condP (lk rfl) (fun hy => absurd hy (by first | omega | assumption | decide)) (fun _ => ?_)
      refine Body.seq ?_
      refine Body.seq ?_
      refine Body.region ?_
      refine Ops.u (Dtu.eql (lk rfl) (lk rfl)) rfl ?_
      refine Ops.u (Dtu.asg (lk rfl)) rfl ?_
      refine Ops.nil ?_
      refine Then.next ?_
      refine Body.condP (lk rfl) (fun hy => absurd hy (by first | omega | assumption | decide)) (fun _ => ?_)
      refine Body.region ?_
      refine Ops.u (Dtu.eql (lk rfl) (lk rfl)) rfl ?_
      refine Ops.u (Dtu.asg (lk rfl)) rfl ?_
      refine Ops.nil ?_
      refine Then.next ?_
      refine Body.condP (lk rfl) (fun hy => absurd hy (by first | omega | assumption | decide)) (fun _ => ?_)
      refine Body.seq ?_
      refine Body.seq ?_
      refine Body.region ?_
      refine Ops.u (Dtu.eql (lk rfl) (lk rfl)) rfl ?_
      refine Ops.u (Dtu.asg (lk rfl)) rfl ?_
      refine Ops.nil ?_
      refine Then.next ?_
      refine Body.condP (lk rfl) (fun hy => absurd hy (by first | omega | assumption | decide)) (fun _ => ?_)
      refine Body.region ?_
      refine Ops.u (Dtu.eql (lk rfl) (lk rfl)) rfl ?_
      refine Ops.u (Dtu.asg (lk rfl)) rfl ?_
      refine Ops.nil ?_
      refine Then.next ?_
      refine Body.condP (lk rfl) (fun _ => ?_) (fun hn => absurd (by first | omega | assumption | decide) hn)
      refine Body.seq ?_
      refine Body.seq ?_
      refine Body.region ?_
      refine Ops.u (Dtu.fld fa41_0 (lk rfl)) rfl ?_
      refine Ops.d (Det.ld Try.isAgg3 (lk rfl) (Rd.ow 2 rfl rfl)) rfl ?_
      refine Ops.u (Dtu.eql (lk rfl) (lk rfl)) rfl ?_
      refine Ops.nil ?_
      refine Then.next ?_
      refine Body.condP (lk rfl) (fun hy => absurd hy (by first | omega | assumption | decide)) (fun _ => ?_)
      refine Body.region ?_
      refine Ops.u (Dtu.mv (lk rfl)) rfl ?_
      refine Ops.u (Dtu.fld fa41_1 (lk rfl)) rfl ?_
      refine Ops.d (Det.ld Try.isAgg3 (lk rfl) (Rd.ow 2 rfl rfl)) rfl ?_
      refine Ops.u (Dtu.fld fa41_2 (lk rfl)) rfl ?_
      refine Ops.d (Det.ld Try.isAgg3 (lk rfl) (Rd.ow 2 rfl rfl)) rfl ?_
      refine Ops.u (Dtu.fld fa41_3 (lk rfl)) rfl ?_
      refine Ops.d (Det.ld Try.isAgg3 (lk rfl) (Rd.ow 2 rfl rfl)) rfl ?_
      refine Ops.u (Dtu.fld fa41_4 (lk rfl)) rfl ?_
      refine Ops.d (Det.lda Try.isAgg39 Try.sizeOf39 (lk rfl) (Rds.ow (m := 4) 2 rfl rfl) rfl) rfl ?_
      refine Ops.s (Stp.callOwn [4] rfl rfl Try.call27 (lks rfl) (fun E' le hat => delete_g E' _ _ _ _ _ _ _ _ _) ?_) rfl
      rintro _ _ ⟨rfl, rfl⟩
      refine Ops.u (Dtu.asg (lk rfl)) rfl ?_
      refine Ops.nil ?_
      refine Then.next ?_
      refine Body.seq ?_
      refine Body.region ?_
      refine Ops.u (Dtu.asg (lk rfl)) rfl ?_
      refine Ops.nil ?_
      refine Then.next ?_
      refine Body.seq ?_
      refine Body.region ?_
      refine Ops.d (Det.lda Try.isAgg29 Try.sizeOf29 (lk rfl) (Rds.ow (m := 3) 4 rfl rfl) rfl) rfl ?_
      refine Ops.u (Dtu.fld fa41_1 (lk rfl)) rfl ?_
      refine Ops.d (Det.ld Try.isAgg3 (lk rfl) (Rd.ow 3 rfl rfl)) rfl ?_
      refine Ops.u (Dtu.fld fa41_2 (lk rfl)) rfl ?_
      refine Ops.d (Det.ld Try.isAgg3 (lk rfl) (Rd.ow 3 rfl rfl)) rfl ?_
      refine Ops.s (Stp.call rfl Try.call17 (lks rfl) (fun E' le hat => rhas_ok E' _ _ _ _ ⟨_, _, _, rfl⟩) ?_) rfl
      rintro _ _ ⟨rfl, rfl⟩
      refine Ops.u (Dtu.mv (lk rfl)) rfl ?_
      refine Ops.decP 164 rfl (fun _ => ?_) (fun hn => absurd (by first | omega | assumption | decide) hn)
      refine Ops.gu rfl rfl rfl (Dtu.fld fa41_3 (lk rfl)) rfl ?_
      refine Ops.gd rfl rfl rfl (Det.ld Try.isAgg3 (lk rfl) (Rd.ow 3 rfl rfl)) rfl ?_
      refine Ops.gu rfl rfl rfl (Dtu.geq (lk rfl) (lk rfl)) rfl ?_
      refine Ops.u (Dtu.pickT (lk rfl) (lk rfl)) rfl ?_
      refine Ops.nil ?_
      refine Then.next ?_
      refine Body.condP (lk rfl) (fun _ => ?_) (fun hn => absurd (by first | omega | assumption | decide) hn)
      refine Body.region ?_
      refine Ops.d (Det.lda Try.isAgg29 Try.sizeOf29 (lk rfl) (Rds.ow (m := 3) 4 rfl rfl) rfl) rfl ?_
      refine Ops.u (Dtu.fld fa41_1 (lk rfl)) rfl ?_
      refine Ops.d (Det.ld Try.isAgg3 (lk rfl) (Rd.ow 3 rfl rfl)) rfl ?_
      refine Ops.u (Dtu.fld fa41_2 (lk rfl)) rfl ?_
      refine Ops.d (Det.ld Try.isAgg3 (lk rfl) (Rd.ow 3 rfl rfl)) rfl ?_
      refine Ops.u (Dtu.mv (lk rfl)) rfl ?_
      refine Ops.d (Det.lda Try.isAgg49 Try.sizeOf49 (lk rfl) (Rds.ow (m := 11) 1 rfl rfl) rfl) rfl ?_
      refine Ops.s (Stp.call rfl Try.call78 (lks rfl) (fun E' le hat => rshift_ok E' _ _ _ _ _ _ _ _ _ (by first | assumption | omega) (by first | assumption | omega) (by first | assumption | omega) (by first | exact Sl.mono (by assumption) le | exact Sl.hatI hat 0 rfl | exact Sl.hatI hat 1 rfl | exact Sl.hatI hat 2 rfl | exact Sl.hatI hat 3 rfl | exact Sl.hatI hat 4 rfl | exact Sl.hatI hat 5 rfl | exact Sl.hatI hat 6 rfl | exact Sl.hatI hat 7 rfl | exact Sl.hatI hat 8 rfl | exact Sl.hatI hat 9 rfl | exact Sl.hatI hat 10 rfl | exact Sl.hatI hat 11 rfl | exact Sl.hatI hat 12 rfl | exact Sl.hatI hat 13 rfl | exact Sl.hatI hat 14 rfl | exact Sl.hatI hat 15 rfl)) ?_) rfl
      rintro _ _ ⟨ra176, rc176, rfl, rfl⟩
      refine Ops.e (Stp.store 5 Try.sizeOf29 (lk rfl) (lk rfl) rfl rfl rfl rfl rfl rfl rfl ?_)
      refine Ops.u (Dtu.asg (lk rfl)) rfl ?_
      refine Ops.nil ?_
      refine Blk.norm ?_
      refine Then.next ?_
      refine Body.seq ?_
      refine Body.region ?_
      refine Ops.d (Det.lda Try.isAgg29 Try.sizeOf29 (lk rfl) (Rds.ow (m := 3) 5 rfl rfl) rfl) rfl ?_
      refine Ops.u (Dtu.mv (lk rfl)) rfl ?_
      refine Ops.u (Dtu.mv (lk rfl)) rfl ?_
      refine Ops.u (Dtu.eql (lk rfl) (lk rfl)) rfl ?_
      refine Ops.e (Stp.store 3 Try.sizeOf29 (lk rfl) (lk rfl) rfl rfl rfl rfl rfl rfl rfl ?_)
      refine Ops.u (Dtu.asg (lk rfl)) rfl ?_
      refine Ops.nil ?_
      refine Then.next ?_
      refine Body.ret ?_
      exact ⟨.inr rfl, _, Loads.agg Try.isAgg29 Try.sizeOf29 (Rds.ow (m := 3) 3 rfl rfl) rfl, _, pk [1, 0] rfl, ra176, rc176, _, rfl, by rw [hr1, hr2, e]; rfl, by rw [← sh_del ok h, hr1, hr2]⟩
    · have e := erI_neg h
      have e2 : g.del oa ob n ⟨pt, fl, fg, bg⟩ = g := if_neg h
      by_cases hhs : g.has oa ob
      · have hd := decide_eq_true hhs
        have hn : ¬ 0 ≤ n := fun hn => h ⟨hhs, hn⟩
        refine Body.seq ?_
        refine Body.seq ?_
        refine Body.region ?_
        refine Ops.u (Dtu.fld fa41_0 (lk rfl)) rfl ?_
        refine Ops.d (Det.ld Try.isAgg3 (lk rfl) (Rd.ow 2 rfl rfl)) rfl ?_
        refine Ops.nil ?_
        refine Then.next ?_
        refine Body.block ?_
        refine Body.seq ?_
        refine Body.region ?_
        refine Ops.u (Dtu.eql (lk rfl) (lk rfl)) rfl ?_
        refine Ops.u (Dtu.asg (lk rfl)) rfl ?_
        refine Ops.nil ?_
        refine Then.next ?_
        refine Body.condP (lk rfl) (fun hy => absurd hy (by first | omega | assumption | decide)) (fun _ => ?_)
        refine Body.seq ?_
        refine Body.region ?_
        refine Ops.u (Dtu.eql (lk rfl) (lk rfl)) rfl ?_
        refine Ops.u (Dtu.asg (lk rfl)) rfl ?_
        refine Ops.nil ?_
        refine Then.next ?_
        refine Body.condP (lk rfl) (fun hy => absurd hy (by first | omega | assumption | decide)) (fun _ => ?_)
        refine Body.seq ?_
        refine Body.seq ?_
        refine Body.region ?_
        refine Ops.u (Dtu.eql (lk rfl) (lk rfl)) rfl ?_
        refine Ops.u (Dtu.asg (lk rfl)) rfl ?_
        refine Ops.nil ?_
        refine Then.next ?_
        refine Body.condP (lk rfl) (fun hy => absurd hy (by first | omega | assumption | decide)) (fun _ => ?_)
        refine Body.region ?_
        refine Ops.u (Dtu.eql (lk rfl) (lk rfl)) rfl ?_
        refine Ops.u (Dtu.asg (lk rfl)) rfl ?_
        refine Ops.nil ?_
        refine Then.next ?_
        refine Body.condP (lk rfl) (fun hy => absurd hy (by first | omega | assumption | decide)) (fun _ => ?_)
        refine Body.seq ?_
        refine Body.seq ?_
        refine Body.region ?_
        refine Ops.u (Dtu.eql (lk rfl) (lk rfl)) rfl ?_
        refine Ops.u (Dtu.asg (lk rfl)) rfl ?_
        refine Ops.nil ?_
        refine Then.next ?_
        refine Body.condP (lk rfl) (fun hy => absurd hy (by first | omega | assumption | decide)) (fun _ => ?_)
        refine Body.region ?_
        refine Ops.u (Dtu.eql (lk rfl) (lk rfl)) rfl ?_
        refine Ops.u (Dtu.asg (lk rfl)) rfl ?_
        refine Ops.nil ?_
        refine Then.next ?_
        refine Body.condP (lk rfl) (fun _ => ?_) (fun hn => absurd (by first | omega | assumption | decide) hn)
        refine Body.seq ?_
        refine Body.seq ?_
        refine Body.region ?_
        refine Ops.u (Dtu.fld fa41_0 (lk rfl)) rfl ?_
        refine Ops.d (Det.ld Try.isAgg3 (lk rfl) (Rd.ow 2 rfl rfl)) rfl ?_
        refine Ops.u (Dtu.eql (lk rfl) (lk rfl)) rfl ?_
        refine Ops.nil ?_
        refine Then.next ?_
        refine Body.condP (lk rfl) (fun hy => absurd hy (by first | omega | assumption | decide)) (fun _ => ?_)
        refine Body.region ?_
        refine Ops.u (Dtu.mv (lk rfl)) rfl ?_
        refine Ops.u (Dtu.fld fa41_1 (lk rfl)) rfl ?_
        refine Ops.d (Det.ld Try.isAgg3 (lk rfl) (Rd.ow 2 rfl rfl)) rfl ?_
        refine Ops.u (Dtu.fld fa41_2 (lk rfl)) rfl ?_
        refine Ops.d (Det.ld Try.isAgg3 (lk rfl) (Rd.ow 2 rfl rfl)) rfl ?_
        refine Ops.u (Dtu.fld fa41_3 (lk rfl)) rfl ?_
        refine Ops.d (Det.ld Try.isAgg3 (lk rfl) (Rd.ow 2 rfl rfl)) rfl ?_
        refine Ops.u (Dtu.fld fa41_4 (lk rfl)) rfl ?_
        refine Ops.d (Det.lda Try.isAgg39 Try.sizeOf39 (lk rfl) (Rds.ow (m := 4) 2 rfl rfl) rfl) rfl ?_
        refine Ops.s (Stp.callOwn [4] rfl rfl Try.call27 (lks rfl) (fun E' le hat => delete_g E' _ _ _ _ _ _ _ _ _) ?_) rfl
        rintro _ _ ⟨rfl, rfl⟩
        refine Ops.u (Dtu.asg (lk rfl)) rfl ?_
        refine Ops.nil ?_
        refine Then.next ?_
        refine Body.seq ?_
        refine Body.region ?_
        refine Ops.u (Dtu.asg (lk rfl)) rfl ?_
        refine Ops.nil ?_
        refine Then.next ?_
        refine Body.seq ?_
        refine Body.region ?_
        refine Ops.d (Det.lda Try.isAgg29 Try.sizeOf29 (lk rfl) (Rds.ow (m := 3) 4 rfl rfl) rfl) rfl ?_
        refine Ops.u (Dtu.fld fa41_1 (lk rfl)) rfl ?_
        refine Ops.d (Det.ld Try.isAgg3 (lk rfl) (Rd.ow 3 rfl rfl)) rfl ?_
        refine Ops.u (Dtu.fld fa41_2 (lk rfl)) rfl ?_
        refine Ops.d (Det.ld Try.isAgg3 (lk rfl) (Rd.ow 3 rfl rfl)) rfl ?_
        refine Ops.s (Stp.call rfl Try.call17 (lks rfl) (fun E' le hat => rhas_ok E' _ _ _ _ ⟨_, _, _, rfl⟩) ?_) rfl
        rintro _ _ ⟨rfl, rfl⟩
        refine Ops.u (Dtu.mv (lk rfl)) rfl ?_
        refine Ops.decP 164 rfl (fun _ => ?_) (fun hn => absurd (by first | omega | assumption | decide) hn)
        refine Ops.gu rfl rfl rfl (Dtu.fld fa41_3 (lk rfl)) rfl ?_
        refine Ops.gd rfl rfl rfl (Det.ld Try.isAgg3 (lk rfl) (Rd.ow 3 rfl rfl)) rfl ?_
        refine Ops.gu rfl rfl rfl (Dtu.geq (lk rfl) (lk rfl)) rfl ?_
        refine Ops.u (Dtu.pickT (lk rfl) (lk rfl)) rfl ?_
        refine Ops.nil ?_
        refine Then.next ?_
        refine Body.condP (lk rfl) (fun hy => absurd hy (by first | omega | assumption | decide)) (fun _ => ?_)
        refine Body.skip ?_
        refine Blk.norm ?_
        refine Then.next ?_
        refine Body.seq ?_
        refine Body.region ?_
        refine Ops.d (Det.lda Try.isAgg29 Try.sizeOf29 (lk rfl) (Rds.ow (m := 3) 4 rfl rfl) rfl) rfl ?_
        refine Ops.u (Dtu.mv (lk rfl)) rfl ?_
        refine Ops.u (Dtu.mv (lk rfl)) rfl ?_
        refine Ops.u (Dtu.eql (lk rfl) (lk rfl)) rfl ?_
        refine Ops.e (Stp.store 2 Try.sizeOf29 (lk rfl) (lk rfl) rfl rfl rfl rfl rfl rfl rfl ?_)
        refine Ops.u (Dtu.asg (lk rfl)) rfl ?_
        refine Ops.nil ?_
        refine Then.next ?_
        refine Body.ret ?_
        rw [e2]
        exact ⟨.inr rfl, _, Loads.agg Try.isAgg29 Try.sizeOf29 (Rds.ow (m := 3) 2 rfl rfl) rfl, _, pk [0, 4] rfl, a, m, g, rfl, by rw [e]; rfl, rfl⟩
      · have hd := decide_eq_false hhs
        refine Body.seq ?_
        refine Body.seq ?_
        refine Body.region ?_
        refine Ops.u (Dtu.fld fa41_0 (lk rfl)) rfl ?_
        refine Ops.d (Det.ld Try.isAgg3 (lk rfl) (Rd.ow 2 rfl rfl)) rfl ?_
        refine Ops.nil ?_
        refine Then.next ?_
        refine Body.block ?_
        refine Body.seq ?_
        refine Body.region ?_
        refine Ops.u (Dtu.eql (lk rfl) (lk rfl)) rfl ?_
        refine Ops.u (Dtu.asg (lk rfl)) rfl ?_
        refine Ops.nil ?_
        refine Then.next ?_
        refine Body.condP (lk rfl) (fun hy => absurd hy (by first | omega | assumption | decide)) (fun _ => ?_)
        refine Body.seq ?_
        refine Body.region ?_
        refine Ops.u (Dtu.eql (lk rfl) (lk rfl)) rfl ?_
        refine Ops.u (Dtu.asg (lk rfl)) rfl ?_
        refine Ops.nil ?_
        refine Then.next ?_
        refine Body.condP (lk rfl) (fun hy => absurd hy (by first | omega | assumption | decide)) (fun _ => ?_)
        refine Body.seq ?_
        refine Body.seq ?_
        refine Body.region ?_
        refine Ops.u (Dtu.eql (lk rfl) (lk rfl)) rfl ?_
        refine Ops.u (Dtu.asg (lk rfl)) rfl ?_
        refine Ops.nil ?_
        refine Then.next ?_
        refine Body.condP (lk rfl) (fun hy => absurd hy (by first | omega | assumption | decide)) (fun _ => ?_)
        refine Body.region ?_
        refine Ops.u (Dtu.eql (lk rfl) (lk rfl)) rfl ?_
        refine Ops.u (Dtu.asg (lk rfl)) rfl ?_
        refine Ops.nil ?_
        refine Then.next ?_
        refine Body.condP (lk rfl) (fun hy => absurd hy (by first | omega | assumption | decide)) (fun _ => ?_)
        refine Body.seq ?_
        refine Body.seq ?_
        refine Body.region ?_
        refine Ops.u (Dtu.eql (lk rfl) (lk rfl)) rfl ?_
        refine Ops.u (Dtu.asg (lk rfl)) rfl ?_
        refine Ops.nil ?_
        refine Then.next ?_
        refine Body.condP (lk rfl) (fun hy => absurd hy (by first | omega | assumption | decide)) (fun _ => ?_)
        refine Body.region ?_
        refine Ops.u (Dtu.eql (lk rfl) (lk rfl)) rfl ?_
        refine Ops.u (Dtu.asg (lk rfl)) rfl ?_
        refine Ops.nil ?_
        refine Then.next ?_
        refine Body.condP (lk rfl) (fun _ => ?_) (fun hn => absurd (by first | omega | assumption | decide) hn)
        refine Body.seq ?_
        refine Body.seq ?_
        refine Body.region ?_
        refine Ops.u (Dtu.fld fa41_0 (lk rfl)) rfl ?_
        refine Ops.d (Det.ld Try.isAgg3 (lk rfl) (Rd.ow 2 rfl rfl)) rfl ?_
        refine Ops.u (Dtu.eql (lk rfl) (lk rfl)) rfl ?_
        refine Ops.nil ?_
        refine Then.next ?_
        refine Body.condP (lk rfl) (fun hy => absurd hy (by first | omega | assumption | decide)) (fun _ => ?_)
        refine Body.region ?_
        refine Ops.u (Dtu.mv (lk rfl)) rfl ?_
        refine Ops.u (Dtu.fld fa41_1 (lk rfl)) rfl ?_
        refine Ops.d (Det.ld Try.isAgg3 (lk rfl) (Rd.ow 2 rfl rfl)) rfl ?_
        refine Ops.u (Dtu.fld fa41_2 (lk rfl)) rfl ?_
        refine Ops.d (Det.ld Try.isAgg3 (lk rfl) (Rd.ow 2 rfl rfl)) rfl ?_
        refine Ops.u (Dtu.fld fa41_3 (lk rfl)) rfl ?_
        refine Ops.d (Det.ld Try.isAgg3 (lk rfl) (Rd.ow 2 rfl rfl)) rfl ?_
        refine Ops.u (Dtu.fld fa41_4 (lk rfl)) rfl ?_
        refine Ops.d (Det.lda Try.isAgg39 Try.sizeOf39 (lk rfl) (Rds.ow (m := 4) 2 rfl rfl) rfl) rfl ?_
        refine Ops.s (Stp.callOwn [4] rfl rfl Try.call27 (lks rfl) (fun E' le hat => delete_g E' _ _ _ _ _ _ _ _ _) ?_) rfl
        rintro _ _ ⟨rfl, rfl⟩
        refine Ops.u (Dtu.asg (lk rfl)) rfl ?_
        refine Ops.nil ?_
        refine Then.next ?_
        refine Body.seq ?_
        refine Body.region ?_
        refine Ops.u (Dtu.asg (lk rfl)) rfl ?_
        refine Ops.nil ?_
        refine Then.next ?_
        refine Body.seq ?_
        refine Body.region ?_
        refine Ops.d (Det.lda Try.isAgg29 Try.sizeOf29 (lk rfl) (Rds.ow (m := 3) 4 rfl rfl) rfl) rfl ?_
        refine Ops.u (Dtu.fld fa41_1 (lk rfl)) rfl ?_
        refine Ops.d (Det.ld Try.isAgg3 (lk rfl) (Rd.ow 3 rfl rfl)) rfl ?_
        refine Ops.u (Dtu.fld fa41_2 (lk rfl)) rfl ?_
        refine Ops.d (Det.ld Try.isAgg3 (lk rfl) (Rd.ow 3 rfl rfl)) rfl ?_
        refine Ops.s (Stp.call rfl Try.call17 (lks rfl) (fun E' le hat => rhas_ok E' _ _ _ _ ⟨_, _, _, rfl⟩) ?_) rfl
        rintro _ _ ⟨rfl, rfl⟩
        refine Ops.u (Dtu.mv (lk rfl)) rfl ?_
        refine Ops.decP 164 rfl (fun hy => absurd hy (by first | omega | assumption | decide)) (fun _ => ?_)
        refine Ops.gn rfl rfl rfl rfl rfl ?_
        refine Ops.gn rfl rfl rfl rfl rfl ?_
        refine Ops.gn rfl rfl rfl rfl rfl ?_
        refine Ops.u (Dtu.pickF (lk rfl) (lk rfl)) rfl ?_
        refine Ops.nil ?_
        refine Then.next ?_
        refine Body.condF (lk rfl) ?_
        refine Body.skip ?_
        refine Blk.norm ?_
        refine Then.next ?_
        refine Body.seq ?_
        refine Body.region ?_
        refine Ops.d (Det.lda Try.isAgg29 Try.sizeOf29 (lk rfl) (Rds.ow (m := 3) 4 rfl rfl) rfl) rfl ?_
        refine Ops.u (Dtu.mv (lk rfl)) rfl ?_
        refine Ops.u (Dtu.mv (lk rfl)) rfl ?_
        refine Ops.u (Dtu.eql (lk rfl) (lk rfl)) rfl ?_
        refine Ops.e (Stp.store 2 Try.sizeOf29 (lk rfl) (lk rfl) rfl rfl rfl rfl rfl rfl rfl ?_)
        refine Ops.u (Dtu.asg (lk rfl)) rfl ?_
        refine Ops.nil ?_
        refine Then.next ?_
        refine Body.ret ?_
        rw [e2]
        exact ⟨.inr rfl, _, Loads.agg Try.isAgg29 Try.sizeOf29 (Rds.ow (m := 3) 2 rfl rfl) rfl, _, pk [0, 4] rfl, a, m, g, rfl, by rw [e]; rfl, rfl⟩
  by_cases k6 : k = 6
  · subst k6
    have hg : g.op ⟨6, oa, ob, n, ⟨pt, fl, fg, bg⟩⟩ = g.rsz oa ob ⟨pt, fl, fg, bg⟩ := rfl
    rw [hg]
    cases h : fitsG oa ob
    · have e2 : g.rsz oa ob ⟨pt, fl, fg, bg⟩ = g := by rw [Gd.rsz, h]; rfl
      have e : erI (fitsG oa ob = true) = 1 := by rw [h]; rfl
      refine Body.seq ?_
      refine Body.seq ?_
      refine Body.region ?_
      refine Ops.u (Dtu.fld fa41_0 (lk rfl)) rfl ?_
      refine Ops.d (Det.ld Try.isAgg3 (lk rfl) (Rd.ow 2 rfl rfl)) rfl ?_
      refine Ops.nil ?_
      refine Then.next ?_
      refine Body.block ?_
      refine Body.seq ?_
      refine Body.region ?_
      refine Ops.u (Dtu.eql (lk rfl) (lk rfl)) rfl ?_
      refine Ops.u (Dtu.asg (lk rfl)) rfl ?_
      refine Ops.nil ?_
      refine Then.next ?_
      refine Body.condP (lk rfl) (fun hy => absurd hy (by first | omega | assumption | decide)) (fun _ => ?_)
      refine Body.seq ?_
      refine Body.region ?_
      refine Ops.u (Dtu.eql (lk rfl) (lk rfl)) rfl ?_
      refine Ops.u (Dtu.asg (lk rfl)) rfl ?_
      refine Ops.nil ?_
      refine Then.next ?_
      refine Body.condP (lk rfl) (fun hy => absurd hy (by first | omega | assumption | decide)) (fun _ => ?_)
      refine Body.seq ?_
      refine Body.seq ?_
      refine Body.region ?_
      refine Ops.u (Dtu.eql (lk rfl) (lk rfl)) rfl ?_
      refine Ops.u (Dtu.asg (lk rfl)) rfl ?_
      refine Ops.nil ?_
      refine Then.next ?_
      refine Body.condP (lk rfl) (fun hy => absurd hy (by first | omega | assumption | decide)) (fun _ => ?_)
      refine Body.region ?_
      refine Ops.u (Dtu.eql (lk rfl) (lk rfl)) rfl ?_
      refine Ops.u (Dtu.asg (lk rfl)) rfl ?_
      refine Ops.nil ?_
      refine Then.next ?_
      refine Body.condP (lk rfl) (fun hy => absurd hy (by first | omega | assumption | decide)) (fun _ => ?_)
      refine Body.seq ?_
      refine Body.seq ?_
      refine Body.region ?_
      refine Ops.u (Dtu.eql (lk rfl) (lk rfl)) rfl ?_
      refine Ops.u (Dtu.asg (lk rfl)) rfl ?_
      refine Ops.nil ?_
      refine Then.next ?_
      refine Body.condP (lk rfl) (fun hy => absurd hy (by first | omega | assumption | decide)) (fun _ => ?_)
      refine Body.region ?_
      refine Ops.u (Dtu.eql (lk rfl) (lk rfl)) rfl ?_
      refine Ops.u (Dtu.asg (lk rfl)) rfl ?_
      refine Ops.nil ?_
      refine Then.next ?_
      refine Body.condP (lk rfl) (fun hy => absurd hy (by first | omega | assumption | decide)) (fun _ => ?_)
      refine Body.seq ?_
      refine Body.region ?_
      refine Ops.u (Dtu.eql (lk rfl) (lk rfl)) rfl ?_
      refine Ops.u (Dtu.asg (lk rfl)) rfl ?_
      refine Ops.nil ?_
      refine Then.next ?_
      refine Body.condP (lk rfl) (fun _ => ?_) (fun hn => absurd (by first | omega | assumption | decide) hn)
      refine Body.seq ?_
      refine Body.region ?_
      refine Ops.u (Dtu.mv (lk rfl)) rfl ?_
      refine Ops.u (Dtu.fld fa41_1 (lk rfl)) rfl ?_
      refine Ops.d (Det.ld Try.isAgg3 (lk rfl) (Rd.ow 2 rfl rfl)) rfl ?_
      refine Ops.u (Dtu.fld fa41_2 (lk rfl)) rfl ?_
      refine Ops.d (Det.ld Try.isAgg3 (lk rfl) (Rd.ow 2 rfl rfl)) rfl ?_
      refine Ops.u (Dtu.fld fa41_4 (lk rfl)) rfl ?_
      refine Ops.d (Det.lda Try.isAgg39 Try.sizeOf39 (lk rfl) (Rds.ow (m := 4) 2 rfl rfl) rfl) rfl ?_
      refine Ops.s (Stp.callOwn [4] rfl rfl Try.call31 (lks rfl) (fun E' le hat => resize_g E' _ _ _ _ _ _ _ _) ?_) rfl
      rintro _ _ ⟨rfl, rfl⟩
      refine Ops.u (Dtu.asg (lk rfl)) rfl ?_
      refine Ops.nil ?_
      refine Then.next ?_
      refine Body.region ?_
      refine Ops.d (Det.lda Try.isAgg29 Try.sizeOf29 (lk rfl) (Rds.ow (m := 3) 4 rfl rfl) rfl) rfl ?_
      refine Ops.u (Dtu.fld fa41_1 (lk rfl)) rfl ?_
      refine Ops.d (Det.ld Try.isAgg3 (lk rfl) (Rd.ow 3 rfl rfl)) rfl ?_
      refine Ops.u (Dtu.fld fa41_2 (lk rfl)) rfl ?_
      refine Ops.d (Det.ld Try.isAgg3 (lk rfl) (Rd.ow 3 rfl rfl)) rfl ?_
      refine Ops.d (Det.lda Try.isAgg49 Try.sizeOf49 (lk rfl) (Rds.ow (m := 11) 1 rfl rfl) rfl) rfl ?_
      refine Ops.s (Stp.call rfl Try.call79 (lks rfl) (fun E' le hat => rresize_no E' _ _ _ _ _ (by first | assumption | omega) ⟨_, _, _, rfl⟩) ?_) rfl
      rintro _ _ ⟨rfl, rfl⟩
      refine Ops.u (Dtu.mv (lk rfl)) rfl ?_
      refine Ops.u (Dtu.ext (lk rfl) rfl) rfl ?_
      refine Ops.u (Dtu.ext (lk rfl) rfl) rfl ?_
      refine Ops.e (Stp.store 4 Try.sizeOf29 (lk rfl) (lk rfl) rfl rfl rfl rfl rfl rfl rfl ?_)
      refine Ops.u (Dtu.asg (lk rfl)) rfl ?_
      refine Ops.nil ?_
      refine Blk.norm ?_
      refine Then.next ?_
      refine Body.seq ?_
      refine Body.region ?_
      refine Ops.d (Det.lda Try.isAgg29 Try.sizeOf29 (lk rfl) (Rds.ow (m := 3) 4 rfl rfl) rfl) rfl ?_
      refine Ops.u (Dtu.mv (lk rfl)) rfl ?_
      refine Ops.u (Dtu.mv (lk rfl)) rfl ?_
      refine Ops.u (Dtu.eql (lk rfl) (lk rfl)) rfl ?_
      refine Ops.e (Stp.store 2 Try.sizeOf29 (lk rfl) (lk rfl) rfl rfl rfl rfl rfl rfl rfl ?_)
      refine Ops.u (Dtu.asg (lk rfl)) rfl ?_
      refine Ops.nil ?_
      refine Then.next ?_
      refine Body.ret ?_
      rw [e2]
      exact ⟨.inr rfl, _, Loads.agg Try.isAgg29 Try.sizeOf29 (Rds.ow (m := 3) 2 rfl rfl) rfl, _, pk [0, 4] rfl, a, m, g, rfl, by rw [e]; rfl, rfl⟩
    · have hb : 1 ≤ oa ∧ oa ≤ 12 ∧ 1 ≤ ob ∧ ob ≤ 40 := by simpa [fitsG] using h
      have e : erI (fitsG oa ob = true) = 0 := by rw [h]; rfl
      have hr1 : (g.rsz oa ob ⟨pt, fl, fg, bg⟩).r = oa.toNat := by rw [Gd.rsz, h]; rfl
      have hr2 : (g.rsz oa ob ⟨pt, fl, fg, bg⟩).c = ob.toNat := by rw [Gd.rsz, h]; rfl
      have hi1 : ((oa.toNat : Nat) : Int) = oa := by omega
      have hi2 : ((ob.toNat : Nat) : Int) = ob := by omega
      refine Body.seq ?_
      refine Body.seq ?_
      refine Body.region ?_
      refine Ops.u (Dtu.fld fa41_0 (lk rfl)) rfl ?_
      refine Ops.d (Det.ld Try.isAgg3 (lk rfl) (Rd.ow 2 rfl rfl)) rfl ?_
      refine Ops.nil ?_
      refine Then.next ?_
      refine Body.block ?_
      refine Body.seq ?_
      refine Body.region ?_
      refine Ops.u (Dtu.eql (lk rfl) (lk rfl)) rfl ?_
      refine Ops.u (Dtu.asg (lk rfl)) rfl ?_
      refine Ops.nil ?_
      refine Then.next ?_
      refine Body.condP (lk rfl) (fun hy => absurd hy (by first | omega | assumption | decide)) (fun _ => ?_)
      refine Body.seq ?_
      refine Body.region ?_
      refine Ops.u (Dtu.eql (lk rfl) (lk rfl)) rfl ?_
      refine Ops.u (Dtu.asg (lk rfl)) rfl ?_
      refine Ops.nil ?_
      refine Then.next ?_
      refine Body.condP (lk rfl) (fun hy => absurd hy (by first | omega | assumption | decide)) (fun _ => ?_)
      refine Body.seq ?_
      refine Body.seq ?_
      refine Body.region ?_
      refine Ops.u (Dtu.eql (lk rfl) (lk rfl)) rfl ?_
      refine Ops.u (Dtu.asg (lk rfl)) rfl ?_
      refine Ops.nil ?_
      refine Then.next ?_
      refine Body.condP (lk rfl) (fun hy => absurd hy (by first | omega | assumption | decide)) (fun _ => ?_)
      refine Body.region ?_
      refine Ops.u (Dtu.eql (lk rfl) (lk rfl)) rfl ?_
      refine Ops.u (Dtu.asg (lk rfl)) rfl ?_
      refine Ops.nil ?_
      refine Then.next ?_
      refine Body.condP (lk rfl) (fun hy => absurd hy (by first | omega | assumption | decide)) (fun _ => ?_)
      refine Body.seq ?_
      refine Body.seq ?_
      refine Body.region ?_
      refine Ops.u (Dtu.eql (lk rfl) (lk rfl)) rfl ?_
      refine Ops.u (Dtu.asg (lk rfl)) rfl ?_
      refine Ops.nil ?_
      refine Then.next ?_
      refine Body.condP (lk rfl) (fun hy => absurd hy (by first | omega | assumption | decide)) (fun _ => ?_)
      refine Body.region ?_
      refine Ops.u (Dtu.eql (lk rfl) (lk rfl)) rfl ?_
      refine Ops.u (Dtu.asg (lk rfl)) rfl ?_
      refine Ops.nil ?_
      refine Then.next ?_
      refine Body.condP (lk rfl) (fun hy => absurd hy (by first | omega | assumption | decide)) (fun _ => ?_)
      refine Body.seq ?_
      refine Body.region ?_
      refine Ops.u (Dtu.eql (lk rfl) (lk rfl)) rfl ?_
      refine Ops.u (Dtu.asg (lk rfl)) rfl ?_
      refine Ops.nil ?_
      refine Then.next ?_
      refine Body.condP (lk rfl) (fun _ => ?_) (fun hn => absurd (by first | omega | assumption | decide) hn)
      refine Body.seq ?_
      refine Body.region ?_
      refine Ops.u (Dtu.mv (lk rfl)) rfl ?_
      refine Ops.u (Dtu.fld fa41_1 (lk rfl)) rfl ?_
      refine Ops.d (Det.ld Try.isAgg3 (lk rfl) (Rd.ow 2 rfl rfl)) rfl ?_
      refine Ops.u (Dtu.fld fa41_2 (lk rfl)) rfl ?_
      refine Ops.d (Det.ld Try.isAgg3 (lk rfl) (Rd.ow 2 rfl rfl)) rfl ?_
      refine Ops.u (Dtu.fld fa41_4 (lk rfl)) rfl ?_
      refine Ops.d (Det.lda Try.isAgg39 Try.sizeOf39 (lk rfl) (Rds.ow (m := 4) 2 rfl rfl) rfl) rfl ?_
      refine Ops.s (Stp.callOwn [4] rfl rfl Try.call31 (lks rfl) (fun E' le hat => resize_g E' _ _ _ _ _ _ _ _) ?_) rfl
      rintro _ _ ⟨rfl, rfl⟩
      refine Ops.u (Dtu.asg (lk rfl)) rfl ?_
      refine Ops.nil ?_
      refine Then.next ?_
      refine Body.region ?_
      refine Ops.d (Det.lda Try.isAgg29 Try.sizeOf29 (lk rfl) (Rds.ow (m := 3) 4 rfl rfl) rfl) rfl ?_
      refine Ops.u (Dtu.fld fa41_1 (lk rfl)) rfl ?_
      refine Ops.d (Det.ld Try.isAgg3 (lk rfl) (Rd.ow 3 rfl rfl)) rfl ?_
      refine Ops.u (Dtu.fld fa41_2 (lk rfl)) rfl ?_
      refine Ops.d (Det.ld Try.isAgg3 (lk rfl) (Rd.ow 3 rfl rfl)) rfl ?_
      refine Ops.d (Det.lda Try.isAgg49 Try.sizeOf49 (lk rfl) (Rds.ow (m := 11) 1 rfl rfl) rfl) rfl ?_
      refine Ops.s (Stp.call rfl Try.call79 (lks rfl) (fun E' le hat => rresize_ok E' _ _ _ _ _ _ _ _ (by first | assumption | omega) (by first | assumption | omega) (by first | exact Sl.mono (by assumption) le | exact Sl.hatI hat 0 rfl | exact Sl.hatI hat 1 rfl | exact Sl.hatI hat 2 rfl | exact Sl.hatI hat 3 rfl | exact Sl.hatI hat 4 rfl | exact Sl.hatI hat 5 rfl | exact Sl.hatI hat 6 rfl | exact Sl.hatI hat 7 rfl | exact Sl.hatI hat 8 rfl | exact Sl.hatI hat 9 rfl | exact Sl.hatI hat 10 rfl | exact Sl.hatI hat 11 rfl | exact Sl.hatI hat 12 rfl | exact Sl.hatI hat 13 rfl | exact Sl.hatI hat 14 rfl | exact Sl.hatI hat 15 rfl)) ?_) rfl
      rintro _ _ ⟨ra194, rc194, rfl, rfl⟩
      refine Ops.u (Dtu.mv (lk rfl)) rfl ?_
      refine Ops.u (Dtu.ext (lk rfl) rfl) rfl ?_
      refine Ops.u (Dtu.ext (lk rfl) rfl) rfl ?_
      refine Ops.e (Stp.store 5 Try.sizeOf29 (lk rfl) (lk rfl) rfl rfl rfl rfl rfl rfl rfl ?_)
      refine Ops.u (Dtu.asg (lk rfl)) rfl ?_
      refine Ops.nil ?_
      refine Blk.norm ?_
      refine Then.next ?_
      refine Body.seq ?_
      refine Body.region ?_
      refine Ops.d (Det.lda Try.isAgg29 Try.sizeOf29 (lk rfl) (Rds.ow (m := 3) 5 rfl rfl) rfl) rfl ?_
      refine Ops.u (Dtu.mv (lk rfl)) rfl ?_
      refine Ops.u (Dtu.mv (lk rfl)) rfl ?_
      refine Ops.u (Dtu.eql (lk rfl) (lk rfl)) rfl ?_
      refine Ops.e (Stp.store 3 Try.sizeOf29 (lk rfl) (lk rfl) rfl rfl rfl rfl rfl rfl rfl ?_)
      refine Ops.u (Dtu.asg (lk rfl)) rfl ?_
      refine Ops.nil ?_
      refine Then.next ?_
      refine Body.ret ?_
      exact ⟨.inr rfl, _, Loads.agg Try.isAgg29 Try.sizeOf29 (Rds.ow (m := 3) 3 rfl rfl) rfl, _, pk [1, 0] rfl, ra194, rc194, _, rfl, by rw [hr1, hr2, e, hi1, hi2]; rfl, by rw [hr1, hr2]⟩
  · have hg : g.op ⟨k, oa, ob, n, ⟨pt, fl, fg, bg⟩⟩ = g := by unfold Gd.op; simp only [k0, k1, k2, k3, k4, k5, k6, if_false]
    rw [hg]
    refine Body.seq ?_
    refine Body.seq ?_
    refine Body.region ?_
    refine Ops.u (Dtu.fld fa41_0 (lk rfl)) rfl ?_
    refine Ops.d (Det.ld Try.isAgg3 (lk rfl) (Rd.ow 2 rfl rfl)) rfl ?_
    refine Ops.nil ?_
    refine Then.next ?_
    refine Body.block ?_
    refine Body.seq ?_
    refine Body.region ?_
    refine Ops.u (Dtu.eql (lk rfl) (lk rfl)) rfl ?_
    refine Ops.u (Dtu.asg (lk rfl)) rfl ?_
    refine Ops.nil ?_
    refine Then.next ?_
    refine Body.condP (lk rfl) (fun hy => absurd hy (by first | omega | assumption | decide)) (fun _ => ?_)
    refine Body.seq ?_
    refine Body.region ?_
    refine Ops.u (Dtu.eql (lk rfl) (lk rfl)) rfl ?_
    refine Ops.u (Dtu.asg (lk rfl)) rfl ?_
    refine Ops.nil ?_
    refine Then.next ?_
    refine Body.condP (lk rfl) (fun hy => absurd hy (by first | omega | assumption | decide)) (fun _ => ?_)
    refine Body.seq ?_
    refine Body.seq ?_
    refine Body.region ?_
    refine Ops.u (Dtu.eql (lk rfl) (lk rfl)) rfl ?_
    refine Ops.u (Dtu.asg (lk rfl)) rfl ?_
    refine Ops.nil ?_
    refine Then.next ?_
    refine Body.condP (lk rfl) (fun hy => absurd hy (by first | omega | assumption | decide)) (fun _ => ?_)
    refine Body.region ?_
    refine Ops.u (Dtu.eql (lk rfl) (lk rfl)) rfl ?_
    refine Ops.u (Dtu.asg (lk rfl)) rfl ?_
    refine Ops.nil ?_
    refine Then.next ?_
    refine Body.condP (lk rfl) (fun hy => absurd hy (by first | omega | assumption | decide)) (fun _ => ?_)
    refine Body.seq ?_
    refine Body.seq ?_
    refine Body.region ?_
    refine Ops.u (Dtu.eql (lk rfl) (lk rfl)) rfl ?_
    refine Ops.u (Dtu.asg (lk rfl)) rfl ?_
    refine Ops.nil ?_
    refine Then.next ?_
    refine Body.condP (lk rfl) (fun hy => absurd hy (by first | omega | assumption | decide)) (fun _ => ?_)
    refine Body.region ?_
    refine Ops.u (Dtu.eql (lk rfl) (lk rfl)) rfl ?_
    refine Ops.u (Dtu.asg (lk rfl)) rfl ?_
    refine Ops.nil ?_
    refine Then.next ?_
    refine Body.condP (lk rfl) (fun hy => absurd hy (by first | omega | assumption | decide)) (fun _ => ?_)
    refine Body.seq ?_
    refine Body.region ?_
    refine Ops.u (Dtu.eql (lk rfl) (lk rfl)) rfl ?_
    refine Ops.u (Dtu.asg (lk rfl)) rfl ?_
    refine Ops.nil ?_
    refine Then.next ?_
    refine Body.condP (lk rfl) (fun hy => absurd hy (by first | omega | assumption | decide)) (fun _ => ?_)
    refine Body.skip ?_
    refine Blk.norm ?_
    refine Then.next ?_
    refine Body.seq ?_
    refine Body.region ?_
    refine Ops.d (Det.lda Try.isAgg29 Try.sizeOf29 (lk rfl) (Rds.ow (m := 3) 3 rfl rfl) rfl) rfl ?_
    refine Ops.u (Dtu.mv (lk rfl)) rfl ?_
    refine Ops.u (Dtu.mv (lk rfl)) rfl ?_
    refine Ops.u (Dtu.eql (lk rfl) (lk rfl)) rfl ?_
    refine Ops.e (Stp.store 1 Try.sizeOf29 (lk rfl) (lk rfl) rfl rfl rfl rfl rfl rfl rfl ?_)
    refine Ops.u (Dtu.asg (lk rfl)) rfl ?_
    refine Ops.nil ?_
    refine Then.next ?_
    refine Body.ret ?_
    exact ⟨.inr rfl, _, Loads.agg Try.isAgg29 Try.sizeOf29 (Rds.ow (m := 3) 1 rfl rfl) rfl, _, pk [4, 4] rfl, a, m, g, rfl, rfl, rfl⟩
end Go.Proofs.Ytpmapedhigjalaa
end
section
/- GridLives: the walk. -/
namespace Go.Proofs.Ytpmapedhigjalaa
set_option maxRecDepth 100000
set_option maxHeartbeats 4000000
set_option linter.unusedVariables false
set_option linter.unusedSimpArgs false
open Go.Sx

theorem Gd.op_ok {g : Gd} (ok : g.Ok) (o : GOp) : (g.op o).Ok := by
  unfold Gd.op
  repeat' split
  all_goals first | exact ok | skip
  · unfold Gd.put; split <;> exact ⟨ok.r, ok.c⟩
  · unfold Gd.fill; split <;> exact ⟨ok.r, ok.c⟩
  · unfold Gd.up; split <;> exact ⟨ok.r, ok.c⟩
  · unfold Gd.down; split <;> exact ⟨ok.r, ok.c⟩
  · unfold Gd.ins; split <;> exact ⟨ok.r, ok.c⟩
  · unfold Gd.del; split <;> exact ⟨ok.r, ok.c⟩
  · unfold Gd.rsz; split
    · rename_i h
      have hb : 1 ≤ o.a ∧ o.a ≤ 12 ∧ 1 ≤ o.b ∧ o.b ≤ 40 := by simpa [fitsG] using h
      exact ⟨by dsimp only; omega, by dsimp only; omega⟩
    · exact ⟨ok.r, ok.c⟩
theorem Gd.op_in {g : Gd} (h : g.In) (o : GOp) (ho : o.c.In) : (g.op o).In := by
  unfold Gd.op
  repeat' split
  all_goals first | exact h | skip
  · unfold Gd.put; split
    · intro i k; dsimp only; split <;> first | exact ho | exact h _ _
    · exact h
  · unfold Gd.fill; split
    · intro i k; dsimp only; split <;> first | exact ho | exact h _ _
    · exact h
  · unfold Gd.up; split
    · intro i k; dsimp only; repeat' split
      all_goals first | exact ho | exact h _ _
    · exact h
  · unfold Gd.down; split
    · intro i k; dsimp only; repeat' split
      all_goals first | exact ho | exact h _ _
    · exact h
  · unfold Gd.ins; split
    · intro i k; dsimp only; repeat' split
      all_goals first | exact ho | exact h _ _
    · exact h
  · unfold Gd.del; split
    · intro i k; dsimp only; repeat' split
      all_goals first | exact ho | exact h _ _
    · exact h
  · unfold Gd.rsz; split
    · intro i k; dsimp only; split <;> first | exact ho | exact h _ _
    · exact h
theorem Gd.new_in (rows cols : Int) : (Gd.new rows cols).In := fun _ _ => (by unfold Cell.In; decide : Cell.blank.In)
theorem new_flat (rows cols : Int) : (Gd.new rows cols).flat = List.replicate (rows.toNat * cols.toNat) Cell.blank := by
  refine (List.eq_replicate_iff.2 ⟨flat_len' _, fun y hy => ?_⟩)
  obtain ⟨j, _, rfl⟩ := List.mem_map.1 hy; rfl
theorem rnew_g (E : Env) (rows cols : Int) (hf : fitsG rows cols = true) : Does Try.prog 13 #[.int .i64 rows, .int .i64 cols] E ([]) fun r H' => ∃ a c, r = .tuple #[.agg #[.int .i64 (Gd.new rows cols).r, .int .i64 (Gd.new rows cols).c, .slice a ((Gd.new rows cols).r * (Gd.new rows cols).c) c], .int .i64 0] ∧ H' = [osl 49 11 (.slice a ((Gd.new rows cols).r * (Gd.new rows cols).c) c) ((Gd.new rows cols).r * (Gd.new rows cols).c) ((Gd.new rows cols).flat.flatMap Cell.renc)] := by
  have hb : 1 ≤ rows ∧ rows ≤ 12 ∧ 1 ≤ cols ∧ cols ≤ 40 := by simpa [fitsG] using hf
  refine (rnew_ok E rows cols hf).mono ?_
  rintro r H' ⟨a, c, rfl, rfl⟩
  refine ⟨a, c, ?_, ?_⟩
  · rw [show (((Gd.new rows cols).r : Nat) : Int) = rows by dsimp only [Gd.new]; omega, show (((Gd.new rows cols).c : Nat) : Int) = cols by dsimp only [Gd.new]; omega]; rfl
  · rw [new_flat]; rfl
theorem at_y (E : Env) (b : Nat) (g : Gd) (row col : Int) (h : g.has row col) : Does Try.prog 16 #[.pointer (some ⟨b, 0, none⟩), .int .i64 row, .int .i64 col] E ([gridP b g]) fun r H' => r = .tuple #[.agg (g.f row.toNat col.toNat).enc.toArray, .int .i64 0] ∧ H' = [gridP b g] := by
  have := at_g E b g row col
  rwa [Gd.atV, if_pos h] at this
theorem at_n (E : Env) (b : Nat) (g : Gd) (row col : Int) (h : ¬ g.has row col) : Does Try.prog 16 #[.pointer (some ⟨b, 0, none⟩), .int .i64 row, .int .i64 col] E ([gridP b g]) fun r H' => r = .tuple #[.agg #[.int .i32 0, .int .u8 0, .int .u32 0, .int .u32 0], .int .i64 1] ∧ H' = [gridP b g] := by
  have := at_g E b g row col
  rwa [Gd.atV, if_neg h] at this
theorem rat_g (E : Env) (g : Gd) (v : Value) (row col : Int) (ok : g.Ok) (hh : g.has row col) (hL : Sl E [] 11 v (g.r * g.c) (g.flat.flatMap Cell.renc)) : Does Try.prog 19 #[.agg #[.int .i64 g.r, .int .i64 g.c, v], .int .i64 row, .int .i64 col] E ([]) fun r H' => r = .agg (g.f row.toNat col.toNat).renc.toArray ∧ H' = [] := by
  obtain ⟨h1, h2, h3, h4⟩ := hh
  obtain ⟨i, rfl⟩ := Int.eq_ofNat_of_zero_le h1
  obtain ⟨k, rfl⟩ := Int.eq_ofNat_of_zero_le h3
  have := rat_ok E g v i k ok (by omega) (by omega) hL
  rwa [flat_rc (by omega) (by omega)] at this
theorem rhas_g (E : Env) (g : Gd) (v : Value) (row col : Int) (hs : IsSl v) : Does Try.prog 17 #[.agg #[.int .i64 g.r, .int .i64 g.c, v], .int .i64 row, .int .i64 col] E ([]) fun r H' => r = .bool (decide (g.has row col)) ∧ H' = [] := by
  exact rhas_ok E g v row col hs
structure GLv where
  i : Nat
  g : Gd
  a : Option Addr
  c : Nat
theorem lives17_ok (E : Env) (rows cols : Int) (v : Value) (ops : List GOp) (hin : ∀ o ∈ ops, o.c.In) (hv : Sl E [] 8 v ops.length (ops.flatMap GOp.enc)) : Does Try.prog 3 #[.int .i64 rows, .int .i64 cols, v] E ([]) fun r H' => r = .bool true ∧ H' = [] := by
  refine Does.pure hv.len fun hlen => ?_
  cases hf : fitsG rows cols
  · refine Does.go _ _ Try.func3 rfl Try.ntmps3 rfl rfl ?_
    refine Body.seq ?_
    refine Body.region ?_
    refine Ops.u (Dtu.asg (lk rfl)) rfl ?_
    refine Ops.nil ?_
    refine Then.next ?_
    refine Body.seq ?_
    refine Body.region ?_
    refine Ops.u (Dtu.mv (lk rfl)) rfl ?_
    refine Ops.u (Dtu.mv (lk rfl)) rfl ?_
    refine Ops.s (Stp.call rfl Try.call12 (lks rfl) (fun E' le hat => gnew_no E' _ _ (by assumption)) ?_) rfl
    rintro _ _ ⟨rfl, rfl⟩
    refine Ops.u (Dtu.mv (lk rfl)) rfl ?_
    refine Ops.u (Dtu.ext (lk rfl) rfl) rfl ?_
    refine Ops.u (Dtu.ext (lk rfl) rfl) rfl ?_
    refine Ops.u (Dtu.asg (lk rfl)) rfl ?_
    refine Ops.u (Dtu.asg (lk rfl)) rfl ?_
    refine Ops.nil ?_
    refine Then.next ?_
    refine Body.seq ?_
    refine Body.region ?_
    refine Ops.u (Dtu.mv (lk rfl)) rfl ?_
    refine Ops.u (Dtu.mv (lk rfl)) rfl ?_
    refine Ops.s (Stp.call rfl Try.call13 (lks rfl) (fun E' le hat => rnew_no E' _ _ (by first | assumption | omega)) ?_) rfl
    rintro _ _ ⟨rfl, rfl⟩
    refine Ops.u (Dtu.mv (lk rfl)) rfl ?_
    refine Ops.u (Dtu.ext (lk rfl) rfl) rfl ?_
    refine Ops.u (Dtu.ext (lk rfl) rfl) rfl ?_
    refine Ops.s (Stp.alloc ty29 (fun b9 => ?_)) rfl
    refine Ops.e (Stp.store 0 Try.sizeOf29 (lk rfl) (lk rfl) rfl rfl rfl rfl rfl rfl rfl ?_)
    refine Ops.u (Dtu.asg (lk rfl)) rfl ?_
    refine Ops.nil ?_
    refine Then.next ?_
    refine Body.seq ?_
    refine Body.seq ?_
    refine Body.region ?_
    refine Ops.u (Dtu.mv (lk rfl)) rfl ?_
    refine Ops.u (Dtu.mv (lk rfl)) rfl ?_
    refine Ops.u (Dtu.neq (lk rfl) (lk rfl)) rfl ?_
    refine Ops.u (Dtu.mv (lk rfl)) rfl ?_
    refine Ops.decP 30 rfl (fun hy => absurd hy (by first | omega | assumption | decide)) (fun _ => ?_)
    refine Ops.gu rfl rfl rfl (Dtu.mv (lk rfl)) rfl ?_
    refine Ops.gu rfl rfl rfl (Dtu.eqNil Try.underlying23 (lk rfl) (lk rfl)) rfl ?_
    refine Ops.gu rfl rfl rfl (Dtu.mv (lk rfl)) rfl ?_
    refine Ops.gu rfl rfl rfl (Dtu.neq (lk rfl) (lk rfl)) rfl ?_
    refine Ops.gu rfl rfl rfl (Dtu.neB Try.underlying4 (lk rfl) (lk rfl)) rfl ?_
    refine Ops.u (Dtu.pickF (lk rfl) (lk rfl)) rfl ?_
    refine Ops.nil ?_
    refine Then.next ?_
    refine Body.condP (lk rfl) (fun hy => absurd hy (nbneOf rfl (decide_eq_true (by first | omega | assumption | decide)) rfl)) (fun _ => ?_)
    refine Body.skip ?_
    refine Then.next ?_
    refine Body.seq ?_
    refine Body.seq ?_
    refine Body.region ?_
    refine Ops.u (Dtu.mv (lk rfl)) rfl ?_
    refine Ops.u (Dtu.neq (lk rfl) (lk rfl)) rfl ?_
    refine Ops.nil ?_
    refine Then.next ?_
    refine Body.condP (lk rfl) (fun _ => ?_) (fun hn => absurd (by first | omega | assumption | decide) hn)
    refine Body.seq ?_
    refine Body.region ?_
    refine Ops.s (Stp.call rfl Try.call14 (lks rfl) (fun E' le hat => alive17_ok E') ?_) rfl
    rintro _ _ ⟨rfl, rfl⟩
    refine Ops.u (Dtu.asg (lk rfl)) rfl ?_
    refine Ops.nil ?_
    refine Then.next ?_
    refine Body.ret ?_
    refine Then.ret ?_
    exact ⟨.inr rfl, _, pk [] rfl, rfl, rfl⟩
  · refine Does.go _ _ Try.func3 rfl Try.ntmps3 rfl rfl ?_
    refine Body.seq ?_
    refine Body.region ?_
    refine Ops.u (Dtu.asg (lk rfl)) rfl ?_
    refine Ops.nil ?_
    refine Then.next ?_
    refine Body.seq ?_
    refine Body.region ?_
    refine Ops.u (Dtu.mv (lk rfl)) rfl ?_
    refine Ops.u (Dtu.mv (lk rfl)) rfl ?_
    refine Ops.s (Stp.call rfl Try.call12 (lks rfl) (fun E' le hat => new_g E' _ _ (by first | assumption | omega)) ?_) rfl
    rintro _ _ ⟨nb18, rfl, rfl⟩
    refine Ops.u (Dtu.mv (lk rfl)) rfl ?_
    refine Ops.u (Dtu.ext (lk rfl) rfl) rfl ?_
    refine Ops.u (Dtu.ext (lk rfl) rfl) rfl ?_
    refine Ops.u (Dtu.asg (lk rfl)) rfl ?_
    refine Ops.u (Dtu.asg (lk rfl)) rfl ?_
    refine Ops.nil ?_
    refine Then.next ?_
    refine Body.seq ?_
    refine Body.region ?_
    refine Ops.u (Dtu.mv (lk rfl)) rfl ?_
    refine Ops.u (Dtu.mv (lk rfl)) rfl ?_
    refine Ops.s (Stp.call rfl Try.call13 (lks rfl) (fun E' le hat => rnew_g E' _ _ (by first | assumption | omega)) ?_) rfl
    rintro _ _ ⟨ra24, rc24, rfl, rfl⟩
    refine Ops.u (Dtu.mv (lk rfl)) rfl ?_
    refine Ops.u (Dtu.ext (lk rfl) rfl) rfl ?_
    refine Ops.u (Dtu.ext (lk rfl) rfl) rfl ?_
    refine Ops.s (Stp.alloc ty29 (fun b9 => ?_)) rfl
    refine Ops.e (Stp.store 0 Try.sizeOf29 (lk rfl) (lk rfl) rfl rfl rfl rfl rfl rfl rfl ?_)
    refine Ops.u (Dtu.asg (lk rfl)) rfl ?_
    refine Ops.nil ?_
    refine Then.next ?_
    refine Body.seq ?_
    refine Body.seq ?_
    refine Body.region ?_
    refine Ops.u (Dtu.mv (lk rfl)) rfl ?_
    refine Ops.u (Dtu.mv (lk rfl)) rfl ?_
    refine Ops.u (Dtu.neq (lk rfl) (lk rfl)) rfl ?_
    refine Ops.u (Dtu.mv (lk rfl)) rfl ?_
    refine Ops.decP 30 rfl (fun hy => absurd hy (by first | omega | assumption | decide)) (fun _ => ?_)
    refine Ops.gu rfl rfl rfl (Dtu.mv (lk rfl)) rfl ?_
    refine Ops.gu rfl rfl rfl (Dtu.eqNil Try.underlying23 (lk rfl) (lk rfl)) rfl ?_
    refine Ops.gu rfl rfl rfl (Dtu.mv (lk rfl)) rfl ?_
    refine Ops.gu rfl rfl rfl (Dtu.neq (lk rfl) (lk rfl)) rfl ?_
    refine Ops.gu rfl rfl rfl (Dtu.neB Try.underlying4 (lk rfl) (lk rfl)) rfl ?_
    refine Ops.u (Dtu.pickF (lk rfl) (lk rfl)) rfl ?_
    refine Ops.nil ?_
    refine Then.next ?_
    refine Body.condP (lk rfl) (fun hy => absurd hy (nbneOf rfl (decide_eq_false (by first | omega | assumption | decide)) rfl)) (fun _ => ?_)
    refine Body.skip ?_
    refine Then.next ?_
    refine Body.seq ?_
    refine Body.seq ?_
    refine Body.region ?_
    refine Ops.u (Dtu.mv (lk rfl)) rfl ?_
    refine Ops.u (Dtu.neq (lk rfl) (lk rfl)) rfl ?_
    refine Ops.nil ?_
    refine Then.next ?_
    refine Body.condP (lk rfl) (fun hy => absurd hy (by first | omega | assumption | decide)) (fun _ => ?_)
    refine Body.skip ?_
    refine Then.next ?_
    refine Body.seq ?_
    refine Body.seq ?_
    refine Body.region ?_
    refine Ops.u (Dtu.asg (lk rfl)) rfl ?_
    refine Ops.nil ?_
    refine Then.next ?_
    refine Body.block ?_
    refine Body.loopH (γ := GLv) rfl (fun s => [(11, .int .i64 s.i)]) (fun s => [(0, own b9 [.int .i64 s.g.r, .int .i64 s.g.c, .slice s.a (s.g.r * s.g.c) s.c] 29), (1, osl 49 11 (.slice s.a (s.g.r * s.g.c) s.c) (s.g.r * s.g.c) (s.g.flat.flatMap Cell.renc)), (2, gridP nb18 s.g)]) (fun s => s.i ≤ ops.length ∧ s.g.Ok ∧ s.g.In) (fun s => ops.length - s.i) (⟨0, Gd.new rows cols, ra24, rc24⟩) (⟨Nat.zero_le _, Gd.new_ok hf, Gd.new_in _ _⟩) ⟨rfl, trivial⟩ rfl ?_
    rintro ⟨i, g, a, c⟩ u ⟨hi, ok, hgi⟩
    dsimp only at hi ok hgi ⊢
    have fin : rSame g g = true := rSame_all rfl rfl fun j _ => rEq_self _
    by_cases hlt : i < ops.length ∧ i < 40
    · have hlt1 := hlt.1
      have ho : ops[i]! ∈ ops := by rw [getElem!_pos ops i hlt.1]; exact List.getElem_mem _
      have hoi := hin _ ho
      have ho1 := hoi.1
      have ho2 := hoi.2.1
      refine Body.seq ?_
      refine Body.seq ?_
      refine Body.region ?_
      refine Ops.u (Dtu.mv (lk rfl)) rfl ?_
      refine Ops.u (Dtu.mv (lk rfl)) rfl ?_
      refine Ops.u (Dtu.lenS Try.underlying22 (Sl.up hv) (lk rfl)) rfl ?_
      refine Ops.u (Dtu.lss (lk rfl) (lk rfl)) rfl ?_
      refine Ops.u (Dtu.mv (lk rfl)) rfl ?_
      refine Ops.decP 44 rfl (fun _ => ?_) (fun hn => absurd (by first | omega | assumption | decide) hn)
      refine Ops.gu rfl rfl rfl (Dtu.mv (lk rfl)) rfl ?_
      refine Ops.gu rfl rfl rfl (Dtu.lss (lk rfl) (lk rfl)) rfl ?_
      refine Ops.u (Dtu.pickT (lk rfl) (lk rfl)) rfl ?_
      refine Ops.nil ?_
      refine Then.next ?_
      refine Body.condP (lk rfl) (fun _ => ?_) (fun hn => absurd (by first | omega | assumption | decide) hn)
      refine Body.skip ?_
      refine Then.next ?_
      refine Body.seq ?_
      refine Body.block ?_
      refine Body.seq ?_
      refine Body.region ?_
      refine Ops.u (Dtu.asg (lk rfl)) rfl ?_
      refine Ops.nil ?_
      refine Then.next ?_
      refine Body.seq ?_
      refine Body.draw mixed ?_
      refine AB.u 0 rfl (by decide +kernel) (Dtu.mv (lk rfl)) rfl ?_
      refine AB.d 1 rfl (by decide +kernel) rfl (Det.lda Try.isAgg29 Try.sizeOf29 (lk rfl) (Rds.ow (m := 3) 0 rfl rfl) rfl) rfl ?_
      refine AB.u 2 rfl (by decide +kernel) (Dtu.mv (lk rfl)) rfl ?_
      refine AB.u 3 rfl (by decide +kernel) (Dtu.mv (lk rfl)) rfl ?_
      refine AB.u 4 rfl (by decide +kernel) (Dtu.ix (i := (i)) Try.underlying22 Try.sizeOf41 (Sl.up hv) (lk rfl) (lk rfl) (by omega) (by omega)) rfl ?_
      refine AB.d 5 rfl (by decide +kernel) rfl (Det.lda Try.isAgg41 Try.sizeOf41 (lk rfl) (Rds.sl (Sl.up hv) (gf (sz := 8) (fun _ => rfl) (by omega))) rfl) rfl ?_
      refine AB.s 6 rfl (by decide +kernel) (by decide +kernel) (Stp.callOwn [2, 1] rfl rfl Try.call15 (lks rfl) (fun E' le hat => do17_ok E' _ _ _ _ _ _ _ _ _ _ _ _ (by first | assumption | omega) (by first | assumption | omega) (by first | assumption | omega)) ?_) rfl
      rintro _ _ ⟨da57, dm57, dg57, hdg57, rfl, rfl⟩
      refine AB.u 7 rfl (by decide +kernel) (Dtu.mv (lk rfl)) rfl ?_
      refine AB.u 8 rfl (by decide +kernel) (Dtu.ext (lk rfl) rfl) rfl ?_
      refine AB.u 9 rfl (by decide +kernel) (Dtu.ext (lk rfl) rfl) rfl ?_
      refine AB.e 10 rfl (by decide +kernel) (by decide +kernel) (Stp.store 2 Try.sizeOf29 (lk rfl) (lk rfl) rfl rfl rfl rfl rfl rfl rfl ?_)
      refine AB.u 11 rfl (by decide +kernel) (Dtu.asg (lk rfl)) rfl ?_
      refine AB.done (by decide +kernel) ?_
      refine Then.next ?_
      refine Body.seq ?_
      have ok2 : dg57.Ok := by rw [hdg57]; exact Gd.op_ok ok ops[i]!
      have hgi2 : dg57.In := by rw [hdg57]; exact Gd.op_in hgi ops[i]! hoi
      clear hdg57 hgi ok fin
      by_cases hh : dg57.has ops[i]!.a ops[i]!.b
      · have hd := decide_eq_true hh
        have hq := rEq_self (dg57.f ops[i]!.a.toNat ops[i]!.b.toNat)
        have hq1 := (hgi2 ops[i]!.a.toNat ops[i]!.b.toNat).1
        have hq2 := (hgi2 ops[i]!.a.toNat ops[i]!.b.toNat).2.1
        refine Body.seq ?_
        refine Body.region ?_
        refine Ops.u (Dtu.mv (lk rfl)) rfl ?_
        refine Ops.u (Dtu.not (lk rfl)) rfl ?_
        refine Ops.nil ?_
        refine Then.next ?_
        refine Body.condF (lk rfl) ?_
        refine Body.skip ?_
        refine Then.next ?_
        refine Body.seq ?_
        refine Body.drawE [] mixed rfl ?_
        rintro E14' le14 -
        have hv_14 := Sl.mono hv le14
        refine AE.u 0 rfl (by decide +kernel) (Dtu.mv (lk rfl)) rfl ?_
        refine AE.u 1 rfl (by decide +kernel) (Dtu.mv (lk rfl)) rfl ?_
        refine AE.u 2 rfl (by decide +kernel) (Dtu.mv (lk rfl)) rfl ?_
        refine AE.u 3 rfl (by decide +kernel) (Dtu.ix (i := (i)) Try.underlying22 Try.sizeOf41 (Sl.up hv_14) (lk rfl) (lk rfl) (by omega) (by omega)) rfl ?_
        refine AE.u 4 rfl (by decide +kernel) (Dtu.fld fa41_1 (lk rfl)) rfl ?_
        refine AE.d 5 rfl (by decide +kernel) (Det.ld Try.isAgg3 (lk rfl) (Rd.sl2 (Sl.up hv_14) (gfe (sz := 8) (fun _ => rfl) (by omega) rfl))) rfl ?_
        refine AE.u 6 rfl (by decide +kernel) (Dtu.mv (lk rfl)) rfl ?_
        refine AE.u 7 rfl (by decide +kernel) (Dtu.mv (lk rfl)) rfl ?_
        refine AE.u 8 rfl (by decide +kernel) (Dtu.ix (i := (i)) Try.underlying22 Try.sizeOf41 (Sl.up hv_14) (lk rfl) (lk rfl) (by omega) (by omega)) rfl ?_
        refine AE.u 9 rfl (by decide +kernel) (Dtu.fld fa41_2 (lk rfl)) rfl ?_
        refine AE.d 10 rfl (by decide +kernel) (Det.ld Try.isAgg3 (lk rfl) (Rd.sl2 (Sl.up hv_14) (gfe (sz := 8) (fun _ => rfl) (by omega) rfl))) rfl ?_
        refine AE.more [11, 15] (by decide +kernel) rfl ⟨?_, ?_, trivial⟩
        · refine AEI.s rfl (Stp.callOwn [0] rfl rfl Try.call16 (lks rfl) (fun E' le hat => at_y E' _ _ _ _ (by first | assumption | omega)) ?_) rfl
          rintro _ _ ⟨rfl, rfl⟩
          refine AE.u 12 rfl (by decide +kernel) (Dtu.mv (lk rfl)) rfl ?_
          refine AE.u 13 rfl (by decide +kernel) (Dtu.ext (lk rfl) rfl) rfl ?_
          refine AE.u 14 rfl (by decide +kernel) (Dtu.ext (lk rfl) rfl) rfl ?_
          refine AE.more [15] (by decide +kernel) rfl ⟨?_, trivial⟩
          refine AEI.s rfl (Stp.alloc ty39 (fun b13 => ?_)) rfl
          refine AE.more [16] (by decide +kernel) rfl ⟨?_, trivial⟩
          refine AEI.e rfl (Stp.store 0 Try.sizeOf39 (lk rfl) (lk rfl) rfl rfl rfl rfl rfl rfl rfl ?_)
          refine AE.u 17 rfl (by decide +kernel) (Dtu.asg (lk rfl)) rfl ?_
          refine AE.done (by decide +kernel) ?_
          refine Then.next ?_
          refine Body.seq ?_
          refine Body.drawE [0, 2] mixed rfl ?_
          rintro E15' le15 ⟨hA15_0, hA15_1, -⟩
          have hv_15 := Sl.mono hv le15
          refine AE.d 0 rfl (by decide +kernel) (Det.lda Try.isAgg29 Try.sizeOf29 (lk rfl) (Rds.at (m := 3) hA15_1 rfl) rfl) rfl ?_
          refine AE.u 1 rfl (by decide +kernel) (Dtu.mv (lk rfl)) rfl ?_
          refine AE.u 2 rfl (by decide +kernel) (Dtu.mv (lk rfl)) rfl ?_
          refine AE.u 3 rfl (by decide +kernel) (Dtu.ix (i := (i)) Try.underlying22 Try.sizeOf41 (Sl.up hv_15) (lk rfl) (lk rfl) (by omega) (by omega)) rfl ?_
          refine AE.u 4 rfl (by decide +kernel) (Dtu.fld fa41_1 (lk rfl)) rfl ?_
          refine AE.d 5 rfl (by decide +kernel) (Det.ld Try.isAgg3 (lk rfl) (Rd.sl2 (Sl.up hv_15) (gfe (sz := 8) (fun _ => rfl) (by omega) rfl))) rfl ?_
          refine AE.u 6 rfl (by decide +kernel) (Dtu.mv (lk rfl)) rfl ?_
          refine AE.u 7 rfl (by decide +kernel) (Dtu.mv (lk rfl)) rfl ?_
          refine AE.u 8 rfl (by decide +kernel) (Dtu.ix (i := (i)) Try.underlying22 Try.sizeOf41 (Sl.up hv_15) (lk rfl) (lk rfl) (by omega) (by omega)) rfl ?_
          refine AE.u 9 rfl (by decide +kernel) (Dtu.fld fa41_2 (lk rfl)) rfl ?_
          refine AE.d 10 rfl (by decide +kernel) (Det.ld Try.isAgg3 (lk rfl) (Rd.sl2 (Sl.up hv_15) (gfe (sz := 8) (fun _ => rfl) (by omega) rfl))) rfl ?_
          refine AE.u 12 rfl (by decide +kernel) (Dtu.mv (lk rfl)) rfl ?_
          refine AE.u 13 rfl (by decide +kernel) (Dtu.eql (lk rfl) (lk rfl)) rfl ?_
          refine AE.more [11] (by decide +kernel) rfl ⟨?_, trivial⟩
          refine AEI.s rfl (Stp.call rfl Try.call17 (lks rfl) (fun E' le hat => rhas_g E' _ _ _ _ ⟨_, _, _, rfl⟩) ?_) rfl
          rintro _ _ ⟨rfl, rfl⟩
          refine AE.u 14 rfl (by decide +kernel) (Dtu.neB Try.underlying4 (lk rfl) (lk rfl)) rfl ?_
          refine AE.u 15 rfl (by decide +kernel) (Dtu.mv (lk rfl)) rfl ?_
          refine AE.decP 92 rfl (fun hy => absurd hy (nbneOf hd (decide_eq_true (by first | omega | assumption | decide)) rfl)) (fun _ => ?_)
          refine AE.gu 16 rfl (by decide +kernel) rfl rfl rfl (Dtu.mv (lk rfl)) rfl ?_
          refine AE.gu 17 rfl (by decide +kernel) rfl rfl rfl (Dtu.eql (lk rfl) (lk rfl)) rfl ?_
          refine AE.gu 18 rfl (by decide +kernel) rfl rfl rfl (Dtu.mv (lk rfl)) rfl ?_
          refine AE.decP 95 rfl (fun _ => ?_) (fun hn => absurd (by first | omega | assumption | decide) hn)
          refine AE.gd 19 rfl (by decide +kernel) rfl rfl rfl (Det.lda Try.isAgg39 Try.sizeOf39 (lk rfl) (Rds.at (m := 4) hA15_0 rfl) rfl) rfl ?_
          refine AE.gd 21 rfl (by decide +kernel) rfl rfl rfl (Det.lda Try.isAgg29 Try.sizeOf29 (lk rfl) (Rds.at (m := 3) hA15_1 rfl) rfl) rfl ?_
          refine AE.gu 22 rfl (by decide +kernel) rfl rfl rfl (Dtu.mv (lk rfl)) rfl ?_
          refine AE.gu 23 rfl (by decide +kernel) rfl rfl rfl (Dtu.mv (lk rfl)) rfl ?_
          refine AE.gu 24 rfl (by decide +kernel) rfl rfl rfl (Dtu.ix (i := (i)) Try.underlying22 Try.sizeOf41 (Sl.up hv_15) (lk rfl) (lk rfl) (by omega) (by omega)) rfl ?_
          refine AE.gu 25 rfl (by decide +kernel) rfl rfl rfl (Dtu.fld fa41_1 (lk rfl)) rfl ?_
          refine AE.gd 26 rfl (by decide +kernel) rfl rfl rfl (Det.ld Try.isAgg3 (lk rfl) (Rd.sl2 (Sl.up hv_15) (gfe (sz := 8) (fun _ => rfl) (by omega) rfl))) rfl ?_
          refine AE.gu 27 rfl (by decide +kernel) rfl rfl rfl (Dtu.mv (lk rfl)) rfl ?_
          refine AE.gu 28 rfl (by decide +kernel) rfl rfl rfl (Dtu.mv (lk rfl)) rfl ?_
          refine AE.gu 29 rfl (by decide +kernel) rfl rfl rfl (Dtu.ix (i := (i)) Try.underlying22 Try.sizeOf41 (Sl.up hv_15) (lk rfl) (lk rfl) (by omega) (by omega)) rfl ?_
          refine AE.gu 30 rfl (by decide +kernel) rfl rfl rfl (Dtu.fld fa41_2 (lk rfl)) rfl ?_
          refine AE.gd 31 rfl (by decide +kernel) rfl rfl rfl (Det.ld Try.isAgg3 (lk rfl) (Rd.sl2 (Sl.up hv_15) (gfe (sz := 8) (fun _ => rfl) (by omega) rfl))) rfl ?_
          refine AE.more [20] (by decide +kernel) rfl ⟨?_, trivial⟩
          refine AEI.gs rfl rfl rfl rfl (Stp.call rfl Try.call18 (lks rfl) (fun E' le hat => cell17_ok E' _ _ _ _ (by first | assumption | omega) (by first | assumption | omega)) ?_) rfl
          rintro _ _ ⟨rfl, rfl⟩
          refine AE.more [32] (by decide +kernel) rfl ⟨?_, trivial⟩
          refine AEI.gs rfl rfl rfl rfl (Stp.call rfl Try.call19 (lks rfl) (fun E' le hat => rat_g E' _ _ _ _ (by first | assumption | omega) (by first | assumption | omega) (by first | exact Sl.mono (by assumption) le | exact Sl.hatI hat 0 rfl | exact Sl.hatI hat 1 rfl | exact Sl.hatI hat 2 rfl | exact Sl.hatI hat 3 rfl | exact Sl.hatI hat 4 rfl | exact Sl.hatI hat 5 rfl | exact Sl.hatI hat 6 rfl | exact Sl.hatI hat 7 rfl | exact Sl.hatI hat 8 rfl | exact Sl.hatI hat 9 rfl | exact Sl.hatI hat 10 rfl | exact Sl.hatI hat 11 rfl | exact Sl.hatI hat 12 rfl | exact Sl.hatI hat 13 rfl | exact Sl.hatI hat 14 rfl | exact Sl.hatI hat 15 rfl)) ?_) rfl
          rintro _ _ ⟨rfl, rfl⟩
          refine AE.gu 33 rfl (by decide +kernel) rfl rfl rfl (Dtu.neS eqGuard49 (eq49 _ _) (lk rfl) (lk rfl)) rfl ?_
          refine AE.gu 34 rfl (by decide +kernel) rfl rfl rfl (Dtu.pickT (lk rfl) (lk rfl)) rfl ?_
          refine AE.u 35 rfl (by decide +kernel) (Dtu.pickF (lk rfl) (lk rfl)) rfl ?_
          refine AE.u 36 rfl (by decide +kernel) (Dtu.mv (lk rfl)) rfl ?_
          refine AE.dec 113 rfl (fun hn => absurd hn (by first | (rw [hq]; decide) | simp [hq])) (fun _ => ?_)
          refine AE.gu 37 rfl (by decide +kernel) rfl rfl rfl (Dtu.mv (lk rfl)) rfl ?_
          refine AE.gu 38 rfl (by decide +kernel) rfl rfl rfl (Dtu.neq (lk rfl) (lk rfl)) rfl ?_
          refine AE.gu 39 rfl (by decide +kernel) rfl rfl rfl (Dtu.mv (lk rfl)) rfl ?_
          refine AE.decP 116 rfl (fun hy => absurd hy (by first | omega | assumption | decide)) (fun _ => ?_)
          refine AE.gn 40 rfl (by decide +kernel) rfl rfl rfl rfl rfl ?_
          refine AE.gn 41 rfl (by decide +kernel) rfl rfl rfl rfl rfl ?_
          refine AE.gu 42 rfl (by decide +kernel) rfl rfl rfl (Dtu.pickF (lk rfl) (lk rfl)) rfl ?_
          refine AE.u 43 rfl (by decide +kernel) (Dtu.pickF (lk rfl) (lk rfl)) rfl ?_
          refine AE.done (by decide +kernel) ?_
          refine Then.next ?_
          refine Body.condF (lk rfl) ?_
          refine Body.skip ?_
          refine Blk.norm ?_
          refine Then.next ?_
          refine Body.region ?_
          refine Ops.u (Dtu.mv (lk rfl)) rfl ?_
          refine Ops.u (Dtu.add (lk rfl) (lk rfl) (w64 (by omega) (by omega))) rfl ?_
          refine Ops.u (Dtu.asg (lk rfl)) rfl ?_
          refine Ops.nil ?_
          refine Round.goK [3, 1, 0] ⟨i + 1, dg57, da57, dm57⟩ rfl rfl rfl ⟨rfl, trivial⟩ rfl rfl ⟨hlt1, ok2, hgi2⟩ (by dsimp only; omega)
        · refine AEI.s rfl (Stp.alloc ty39 (fun b13 => ?_)) rfl
          refine AE.more [11] (by decide +kernel) rfl ⟨?_, trivial⟩
          refine AEI.s rfl (Stp.callOwn [1] rfl rfl Try.call16 (lks rfl) (fun E' le hat => at_y E' _ _ _ _ (by first | assumption | omega)) ?_) rfl
          rintro _ _ ⟨rfl, rfl⟩
          refine AE.u 12 rfl (by decide +kernel) (Dtu.mv (lk rfl)) rfl ?_
          refine AE.u 13 rfl (by decide +kernel) (Dtu.ext (lk rfl) rfl) rfl ?_
          refine AE.u 14 rfl (by decide +kernel) (Dtu.ext (lk rfl) rfl) rfl ?_
          refine AE.more [16] (by decide +kernel) rfl ⟨?_, trivial⟩
          refine AEI.e rfl (Stp.store 1 Try.sizeOf39 (lk rfl) (lk rfl) rfl rfl rfl rfl rfl rfl rfl ?_)
          refine AE.u 17 rfl (by decide +kernel) (Dtu.asg (lk rfl)) rfl ?_
          refine AE.done (by decide +kernel) ?_
          refine Then.next ?_
          refine Body.seq ?_
          refine Body.drawE [1, 2] mixed rfl ?_
          rintro E15' le15 ⟨hA15_0, hA15_1, -⟩
          have hv_15 := Sl.mono hv le15
          refine AE.d 0 rfl (by decide +kernel) (Det.lda Try.isAgg29 Try.sizeOf29 (lk rfl) (Rds.at (m := 3) hA15_1 rfl) rfl) rfl ?_
          refine AE.u 1 rfl (by decide +kernel) (Dtu.mv (lk rfl)) rfl ?_
          refine AE.u 2 rfl (by decide +kernel) (Dtu.mv (lk rfl)) rfl ?_
          refine AE.u 3 rfl (by decide +kernel) (Dtu.ix (i := (i)) Try.underlying22 Try.sizeOf41 (Sl.up hv_15) (lk rfl) (lk rfl) (by omega) (by omega)) rfl ?_
          refine AE.u 4 rfl (by decide +kernel) (Dtu.fld fa41_1 (lk rfl)) rfl ?_
          refine AE.d 5 rfl (by decide +kernel) (Det.ld Try.isAgg3 (lk rfl) (Rd.sl2 (Sl.up hv_15) (gfe (sz := 8) (fun _ => rfl) (by omega) rfl))) rfl ?_
          refine AE.u 6 rfl (by decide +kernel) (Dtu.mv (lk rfl)) rfl ?_
          refine AE.u 7 rfl (by decide +kernel) (Dtu.mv (lk rfl)) rfl ?_
          refine AE.u 8 rfl (by decide +kernel) (Dtu.ix (i := (i)) Try.underlying22 Try.sizeOf41 (Sl.up hv_15) (lk rfl) (lk rfl) (by omega) (by omega)) rfl ?_
          refine AE.u 9 rfl (by decide +kernel) (Dtu.fld fa41_2 (lk rfl)) rfl ?_
          refine AE.d 10 rfl (by decide +kernel) (Det.ld Try.isAgg3 (lk rfl) (Rd.sl2 (Sl.up hv_15) (gfe (sz := 8) (fun _ => rfl) (by omega) rfl))) rfl ?_
          refine AE.u 12 rfl (by decide +kernel) (Dtu.mv (lk rfl)) rfl ?_
          refine AE.u 13 rfl (by decide +kernel) (Dtu.eql (lk rfl) (lk rfl)) rfl ?_
          refine AE.more [11] (by decide +kernel) rfl ⟨?_, trivial⟩
          refine AEI.s rfl (Stp.call rfl Try.call17 (lks rfl) (fun E' le hat => rhas_g E' _ _ _ _ ⟨_, _, _, rfl⟩) ?_) rfl
          rintro _ _ ⟨rfl, rfl⟩
          refine AE.u 14 rfl (by decide +kernel) (Dtu.neB Try.underlying4 (lk rfl) (lk rfl)) rfl ?_
          refine AE.u 15 rfl (by decide +kernel) (Dtu.mv (lk rfl)) rfl ?_
          refine AE.decP 92 rfl (fun hy => absurd hy (nbneOf hd (decide_eq_true (by first | omega | assumption | decide)) rfl)) (fun _ => ?_)
          refine AE.gu 16 rfl (by decide +kernel) rfl rfl rfl (Dtu.mv (lk rfl)) rfl ?_
          refine AE.gu 17 rfl (by decide +kernel) rfl rfl rfl (Dtu.eql (lk rfl) (lk rfl)) rfl ?_
          refine AE.gu 18 rfl (by decide +kernel) rfl rfl rfl (Dtu.mv (lk rfl)) rfl ?_
          refine AE.decP 95 rfl (fun _ => ?_) (fun hn => absurd (by first | omega | assumption | decide) hn)
          refine AE.gd 19 rfl (by decide +kernel) rfl rfl rfl (Det.lda Try.isAgg39 Try.sizeOf39 (lk rfl) (Rds.at (m := 4) hA15_0 rfl) rfl) rfl ?_
          refine AE.gd 21 rfl (by decide +kernel) rfl rfl rfl (Det.lda Try.isAgg29 Try.sizeOf29 (lk rfl) (Rds.at (m := 3) hA15_1 rfl) rfl) rfl ?_
          refine AE.gu 22 rfl (by decide +kernel) rfl rfl rfl (Dtu.mv (lk rfl)) rfl ?_
          refine AE.gu 23 rfl (by decide +kernel) rfl rfl rfl (Dtu.mv (lk rfl)) rfl ?_
          refine AE.gu 24 rfl (by decide +kernel) rfl rfl rfl (Dtu.ix (i := (i)) Try.underlying22 Try.sizeOf41 (Sl.up hv_15) (lk rfl) (lk rfl) (by omega) (by omega)) rfl ?_
          refine AE.gu 25 rfl (by decide +kernel) rfl rfl rfl (Dtu.fld fa41_1 (lk rfl)) rfl ?_
          refine AE.gd 26 rfl (by decide +kernel) rfl rfl rfl (Det.ld Try.isAgg3 (lk rfl) (Rd.sl2 (Sl.up hv_15) (gfe (sz := 8) (fun _ => rfl) (by omega) rfl))) rfl ?_
          refine AE.gu 27 rfl (by decide +kernel) rfl rfl rfl (Dtu.mv (lk rfl)) rfl ?_
          refine AE.gu 28 rfl (by decide +kernel) rfl rfl rfl (Dtu.mv (lk rfl)) rfl ?_
          refine AE.gu 29 rfl (by decide +kernel) rfl rfl rfl (Dtu.ix (i := (i)) Try.underlying22 Try.sizeOf41 (Sl.up hv_15) (lk rfl) (lk rfl) (by omega) (by omega)) rfl ?_
          refine AE.gu 30 rfl (by decide +kernel) rfl rfl rfl (Dtu.fld fa41_2 (lk rfl)) rfl ?_
          refine AE.gd 31 rfl (by decide +kernel) rfl rfl rfl (Det.ld Try.isAgg3 (lk rfl) (Rd.sl2 (Sl.up hv_15) (gfe (sz := 8) (fun _ => rfl) (by omega) rfl))) rfl ?_
          refine AE.more [20] (by decide +kernel) rfl ⟨?_, trivial⟩
          refine AEI.gs rfl rfl rfl rfl (Stp.call rfl Try.call18 (lks rfl) (fun E' le hat => cell17_ok E' _ _ _ _ (by first | assumption | omega) (by first | assumption | omega)) ?_) rfl
          rintro _ _ ⟨rfl, rfl⟩
          refine AE.more [32] (by decide +kernel) rfl ⟨?_, trivial⟩
          refine AEI.gs rfl rfl rfl rfl (Stp.call rfl Try.call19 (lks rfl) (fun E' le hat => rat_g E' _ _ _ _ (by first | assumption | omega) (by first | assumption | omega) (by first | exact Sl.mono (by assumption) le | exact Sl.hatI hat 0 rfl | exact Sl.hatI hat 1 rfl | exact Sl.hatI hat 2 rfl | exact Sl.hatI hat 3 rfl | exact Sl.hatI hat 4 rfl | exact Sl.hatI hat 5 rfl | exact Sl.hatI hat 6 rfl | exact Sl.hatI hat 7 rfl | exact Sl.hatI hat 8 rfl | exact Sl.hatI hat 9 rfl | exact Sl.hatI hat 10 rfl | exact Sl.hatI hat 11 rfl | exact Sl.hatI hat 12 rfl | exact Sl.hatI hat 13 rfl | exact Sl.hatI hat 14 rfl | exact Sl.hatI hat 15 rfl)) ?_) rfl
          rintro _ _ ⟨rfl, rfl⟩
          refine AE.gu 33 rfl (by decide +kernel) rfl rfl rfl (Dtu.neS eqGuard49 (eq49 _ _) (lk rfl) (lk rfl)) rfl ?_
          refine AE.gu 34 rfl (by decide +kernel) rfl rfl rfl (Dtu.pickT (lk rfl) (lk rfl)) rfl ?_
          refine AE.u 35 rfl (by decide +kernel) (Dtu.pickF (lk rfl) (lk rfl)) rfl ?_
          refine AE.u 36 rfl (by decide +kernel) (Dtu.mv (lk rfl)) rfl ?_
          refine AE.dec 113 rfl (fun hn => absurd hn (by first | (rw [hq]; decide) | simp [hq])) (fun _ => ?_)
          refine AE.gu 37 rfl (by decide +kernel) rfl rfl rfl (Dtu.mv (lk rfl)) rfl ?_
          refine AE.gu 38 rfl (by decide +kernel) rfl rfl rfl (Dtu.neq (lk rfl) (lk rfl)) rfl ?_
          refine AE.gu 39 rfl (by decide +kernel) rfl rfl rfl (Dtu.mv (lk rfl)) rfl ?_
          refine AE.decP 116 rfl (fun hy => absurd hy (by first | omega | assumption | decide)) (fun _ => ?_)
          refine AE.gn 40 rfl (by decide +kernel) rfl rfl rfl rfl rfl ?_
          refine AE.gn 41 rfl (by decide +kernel) rfl rfl rfl rfl rfl ?_
          refine AE.gu 42 rfl (by decide +kernel) rfl rfl rfl (Dtu.pickF (lk rfl) (lk rfl)) rfl ?_
          refine AE.u 43 rfl (by decide +kernel) (Dtu.pickF (lk rfl) (lk rfl)) rfl ?_
          refine AE.done (by decide +kernel) ?_
          refine Then.next ?_
          refine Body.condF (lk rfl) ?_
          refine Body.skip ?_
          refine Blk.norm ?_
          refine Then.next ?_
          refine Body.region ?_
          refine Ops.u (Dtu.mv (lk rfl)) rfl ?_
          refine Ops.u (Dtu.add (lk rfl) (lk rfl) (w64 (by omega) (by omega))) rfl ?_
          refine Ops.u (Dtu.asg (lk rfl)) rfl ?_
          refine Ops.nil ?_
          refine Round.goK [3, 1, 0] ⟨i + 1, dg57, da57, dm57⟩ rfl rfl rfl ⟨rfl, trivial⟩ rfl rfl ⟨hlt1, ok2, hgi2⟩ (by dsimp only; omega)
      · have hd := decide_eq_false hh
        refine Body.seq ?_
        refine Body.region ?_
        refine Ops.u (Dtu.mv (lk rfl)) rfl ?_
        refine Ops.u (Dtu.not (lk rfl)) rfl ?_
        refine Ops.nil ?_
        refine Then.next ?_
        refine Body.condF (lk rfl) ?_
        refine Body.skip ?_
        refine Then.next ?_
        refine Body.seq ?_
        refine Body.drawE [] mixed rfl ?_
        rintro E14' le14 -
        have hv_14 := Sl.mono hv le14
        refine AE.u 0 rfl (by decide +kernel) (Dtu.mv (lk rfl)) rfl ?_
        refine AE.u 1 rfl (by decide +kernel) (Dtu.mv (lk rfl)) rfl ?_
        refine AE.u 2 rfl (by decide +kernel) (Dtu.mv (lk rfl)) rfl ?_
        refine AE.u 3 rfl (by decide +kernel) (Dtu.ix (i := (i)) Try.underlying22 Try.sizeOf41 (Sl.up hv_14) (lk rfl) (lk rfl) (by omega) (by omega)) rfl ?_
        refine AE.u 4 rfl (by decide +kernel) (Dtu.fld fa41_1 (lk rfl)) rfl ?_
        refine AE.d 5 rfl (by decide +kernel) (Det.ld Try.isAgg3 (lk rfl) (Rd.sl2 (Sl.up hv_14) (gfe (sz := 8) (fun _ => rfl) (by omega) rfl))) rfl ?_
        refine AE.u 6 rfl (by decide +kernel) (Dtu.mv (lk rfl)) rfl ?_
        refine AE.u 7 rfl (by decide +kernel) (Dtu.mv (lk rfl)) rfl ?_
        refine AE.u 8 rfl (by decide +kernel) (Dtu.ix (i := (i)) Try.underlying22 Try.sizeOf41 (Sl.up hv_14) (lk rfl) (lk rfl) (by omega) (by omega)) rfl ?_
        refine AE.u 9 rfl (by decide +kernel) (Dtu.fld fa41_2 (lk rfl)) rfl ?_
        refine AE.d 10 rfl (by decide +kernel) (Det.ld Try.isAgg3 (lk rfl) (Rd.sl2 (Sl.up hv_14) (gfe (sz := 8) (fun _ => rfl) (by omega) rfl))) rfl ?_
        refine AE.more [11, 15] (by decide +kernel) rfl ⟨?_, ?_, trivial⟩
        · refine AEI.s rfl (Stp.callOwn [0] rfl rfl Try.call16 (lks rfl) (fun E' le hat => at_n E' _ _ _ _ (by first | assumption | omega)) ?_) rfl
          rintro _ _ ⟨rfl, rfl⟩
          refine AE.u 12 rfl (by decide +kernel) (Dtu.mv (lk rfl)) rfl ?_
          refine AE.u 13 rfl (by decide +kernel) (Dtu.ext (lk rfl) rfl) rfl ?_
          refine AE.u 14 rfl (by decide +kernel) (Dtu.ext (lk rfl) rfl) rfl ?_
          refine AE.more [15] (by decide +kernel) rfl ⟨?_, trivial⟩
          refine AEI.s rfl (Stp.alloc ty39 (fun b13 => ?_)) rfl
          refine AE.more [16] (by decide +kernel) rfl ⟨?_, trivial⟩
          refine AEI.e rfl (Stp.store 0 Try.sizeOf39 (lk rfl) (lk rfl) rfl rfl rfl rfl rfl rfl rfl ?_)
          refine AE.u 17 rfl (by decide +kernel) (Dtu.asg (lk rfl)) rfl ?_
          refine AE.done (by decide +kernel) ?_
          refine Then.next ?_
          refine Body.seq ?_
          refine Body.drawE [0, 2] mixed rfl ?_
          rintro E15' le15 ⟨hA15_0, hA15_1, -⟩
          have hv_15 := Sl.mono hv le15
          refine AE.d 0 rfl (by decide +kernel) (Det.lda Try.isAgg29 Try.sizeOf29 (lk rfl) (Rds.at (m := 3) hA15_1 rfl) rfl) rfl ?_
          refine AE.u 1 rfl (by decide +kernel) (Dtu.mv (lk rfl)) rfl ?_
          refine AE.u 2 rfl (by decide +kernel) (Dtu.mv (lk rfl)) rfl ?_
          refine AE.u 3 rfl (by decide +kernel) (Dtu.ix (i := (i)) Try.underlying22 Try.sizeOf41 (Sl.up hv_15) (lk rfl) (lk rfl) (by omega) (by omega)) rfl ?_
          refine AE.u 4 rfl (by decide +kernel) (Dtu.fld fa41_1 (lk rfl)) rfl ?_
          refine AE.d 5 rfl (by decide +kernel) (Det.ld Try.isAgg3 (lk rfl) (Rd.sl2 (Sl.up hv_15) (gfe (sz := 8) (fun _ => rfl) (by omega) rfl))) rfl ?_
          refine AE.u 6 rfl (by decide +kernel) (Dtu.mv (lk rfl)) rfl ?_
          refine AE.u 7 rfl (by decide +kernel) (Dtu.mv (lk rfl)) rfl ?_
          refine AE.u 8 rfl (by decide +kernel) (Dtu.ix (i := (i)) Try.underlying22 Try.sizeOf41 (Sl.up hv_15) (lk rfl) (lk rfl) (by omega) (by omega)) rfl ?_
          refine AE.u 9 rfl (by decide +kernel) (Dtu.fld fa41_2 (lk rfl)) rfl ?_
          refine AE.d 10 rfl (by decide +kernel) (Det.ld Try.isAgg3 (lk rfl) (Rd.sl2 (Sl.up hv_15) (gfe (sz := 8) (fun _ => rfl) (by omega) rfl))) rfl ?_
          refine AE.u 12 rfl (by decide +kernel) (Dtu.mv (lk rfl)) rfl ?_
          refine AE.u 13 rfl (by decide +kernel) (Dtu.eql (lk rfl) (lk rfl)) rfl ?_
          refine AE.more [11] (by decide +kernel) rfl ⟨?_, trivial⟩
          refine AEI.s rfl (Stp.call rfl Try.call17 (lks rfl) (fun E' le hat => rhas_g E' _ _ _ _ ⟨_, _, _, rfl⟩) ?_) rfl
          rintro _ _ ⟨rfl, rfl⟩
          refine AE.u 14 rfl (by decide +kernel) (Dtu.neB Try.underlying4 (lk rfl) (lk rfl)) rfl ?_
          refine AE.u 15 rfl (by decide +kernel) (Dtu.mv (lk rfl)) rfl ?_
          refine AE.decP 92 rfl (fun hy => absurd hy (nbneOf hd (decide_eq_false (by first | omega | assumption | decide)) rfl)) (fun _ => ?_)
          refine AE.gu 16 rfl (by decide +kernel) rfl rfl rfl (Dtu.mv (lk rfl)) rfl ?_
          refine AE.gu 17 rfl (by decide +kernel) rfl rfl rfl (Dtu.eql (lk rfl) (lk rfl)) rfl ?_
          refine AE.gu 18 rfl (by decide +kernel) rfl rfl rfl (Dtu.mv (lk rfl)) rfl ?_
          refine AE.decP 95 rfl (fun hy => absurd hy (by first | omega | assumption | decide)) (fun _ => ?_)
          refine AE.gn 19 rfl (by decide +kernel) rfl rfl rfl rfl rfl ?_
          refine AE.gn 20 rfl (by decide +kernel) rfl rfl rfl rfl rfl ?_
          refine AE.gn 21 rfl (by decide +kernel) rfl rfl rfl rfl rfl ?_
          refine AE.gn 22 rfl (by decide +kernel) rfl rfl rfl rfl rfl ?_
          refine AE.gn 23 rfl (by decide +kernel) rfl rfl rfl rfl rfl ?_
          refine AE.gn 24 rfl (by decide +kernel) rfl rfl rfl rfl rfl ?_
          refine AE.gn 25 rfl (by decide +kernel) rfl rfl rfl rfl rfl ?_
          refine AE.gn 26 rfl (by decide +kernel) rfl rfl rfl rfl rfl ?_
          refine AE.gn 27 rfl (by decide +kernel) rfl rfl rfl rfl rfl ?_
          refine AE.gn 28 rfl (by decide +kernel) rfl rfl rfl rfl rfl ?_
          refine AE.gn 29 rfl (by decide +kernel) rfl rfl rfl rfl rfl ?_
          refine AE.gn 30 rfl (by decide +kernel) rfl rfl rfl rfl rfl ?_
          refine AE.gn 31 rfl (by decide +kernel) rfl rfl rfl rfl rfl ?_
          refine AE.gn 32 rfl (by decide +kernel) rfl rfl rfl rfl rfl ?_
          refine AE.gn 33 rfl (by decide +kernel) rfl rfl rfl rfl rfl ?_
          refine AE.gu 34 rfl (by decide +kernel) rfl rfl rfl (Dtu.pickF (lk rfl) (lk rfl)) rfl ?_
          refine AE.u 35 rfl (by decide +kernel) (Dtu.pickF (lk rfl) (lk rfl)) rfl ?_
          refine AE.u 36 rfl (by decide +kernel) (Dtu.mv (lk rfl)) rfl ?_
          refine AE.gu 37 rfl (by decide +kernel) rfl rfl rfl (Dtu.mv (lk rfl)) rfl ?_
          refine AE.gu 38 rfl (by decide +kernel) rfl rfl rfl (Dtu.neq (lk rfl) (lk rfl)) rfl ?_
          refine AE.gu 39 rfl (by decide +kernel) rfl rfl rfl (Dtu.mv (lk rfl)) rfl ?_
          refine AE.decP 116 rfl (fun _ => ?_) (fun hn => absurd (by first | omega | assumption | decide) hn)
          refine AE.gu 40 rfl (by decide +kernel) rfl rfl rfl (Dtu.mv (lk rfl)) rfl ?_
          refine AE.gu 41 rfl (by decide +kernel) rfl rfl rfl (Dtu.neq (lk rfl) (lk rfl)) rfl ?_
          refine AE.gu 42 rfl (by decide +kernel) rfl rfl rfl (Dtu.pickT (lk rfl) (lk rfl)) rfl ?_
          refine AE.u 43 rfl (by decide +kernel) (Dtu.pickF (lk rfl) (lk rfl)) rfl ?_
          refine AE.done (by decide +kernel) ?_
          refine Then.next ?_
          refine Body.condP (lk rfl) (fun hy => absurd hy (by first | omega | assumption | decide)) (fun _ => ?_)
          refine Body.skip ?_
          refine Blk.norm ?_
          refine Then.next ?_
          refine Body.region ?_
          refine Ops.u (Dtu.mv (lk rfl)) rfl ?_
          refine Ops.u (Dtu.add (lk rfl) (lk rfl) (w64 (by omega) (by omega))) rfl ?_
          refine Ops.u (Dtu.asg (lk rfl)) rfl ?_
          refine Ops.nil ?_
          refine Round.goK [3, 1, 0] ⟨i + 1, dg57, da57, dm57⟩ rfl rfl rfl ⟨rfl, trivial⟩ rfl rfl ⟨hlt1, ok2, hgi2⟩ (by dsimp only; omega)
        · refine AEI.s rfl (Stp.alloc ty39 (fun b13 => ?_)) rfl
          refine AE.more [11] (by decide +kernel) rfl ⟨?_, trivial⟩
          refine AEI.s rfl (Stp.callOwn [1] rfl rfl Try.call16 (lks rfl) (fun E' le hat => at_n E' _ _ _ _ (by first | assumption | omega)) ?_) rfl
          rintro _ _ ⟨rfl, rfl⟩
          refine AE.u 12 rfl (by decide +kernel) (Dtu.mv (lk rfl)) rfl ?_
          refine AE.u 13 rfl (by decide +kernel) (Dtu.ext (lk rfl) rfl) rfl ?_
          refine AE.u 14 rfl (by decide +kernel) (Dtu.ext (lk rfl) rfl) rfl ?_
          refine AE.more [16] (by decide +kernel) rfl ⟨?_, trivial⟩
          refine AEI.e rfl (Stp.store 1 Try.sizeOf39 (lk rfl) (lk rfl) rfl rfl rfl rfl rfl rfl rfl ?_)
          refine AE.u 17 rfl (by decide +kernel) (Dtu.asg (lk rfl)) rfl ?_
          refine AE.done (by decide +kernel) ?_
          refine Then.next ?_
          refine Body.seq ?_
          refine Body.drawE [1, 2] mixed rfl ?_
          rintro E15' le15 ⟨hA15_0, hA15_1, -⟩
          have hv_15 := Sl.mono hv le15
          refine AE.d 0 rfl (by decide +kernel) (Det.lda Try.isAgg29 Try.sizeOf29 (lk rfl) (Rds.at (m := 3) hA15_1 rfl) rfl) rfl ?_
          refine AE.u 1 rfl (by decide +kernel) (Dtu.mv (lk rfl)) rfl ?_
          refine AE.u 2 rfl (by decide +kernel) (Dtu.mv (lk rfl)) rfl ?_
          refine AE.u 3 rfl (by decide +kernel) (Dtu.ix (i := (i)) Try.underlying22 Try.sizeOf41 (Sl.up hv_15) (lk rfl) (lk rfl) (by omega) (by omega)) rfl ?_
          refine AE.u 4 rfl (by decide +kernel) (Dtu.fld fa41_1 (lk rfl)) rfl ?_
          refine AE.d 5 rfl (by decide +kernel) (Det.ld Try.isAgg3 (lk rfl) (Rd.sl2 (Sl.up hv_15) (gfe (sz := 8) (fun _ => rfl) (by omega) rfl))) rfl ?_
          refine AE.u 6 rfl (by decide +kernel) (Dtu.mv (lk rfl)) rfl ?_
          refine AE.u 7 rfl (by decide +kernel) (Dtu.mv (lk rfl)) rfl ?_
          refine AE.u 8 rfl (by decide +kernel) (Dtu.ix (i := (i)) Try.underlying22 Try.sizeOf41 (Sl.up hv_15) (lk rfl) (lk rfl) (by omega) (by omega)) rfl ?_
          refine AE.u 9 rfl (by decide +kernel) (Dtu.fld fa41_2 (lk rfl)) rfl ?_
          refine AE.d 10 rfl (by decide +kernel) (Det.ld Try.isAgg3 (lk rfl) (Rd.sl2 (Sl.up hv_15) (gfe (sz := 8) (fun _ => rfl) (by omega) rfl))) rfl ?_
          refine AE.u 12 rfl (by decide +kernel) (Dtu.mv (lk rfl)) rfl ?_
          refine AE.u 13 rfl (by decide +kernel) (Dtu.eql (lk rfl) (lk rfl)) rfl ?_
          refine AE.more [11] (by decide +kernel) rfl ⟨?_, trivial⟩
          refine AEI.s rfl (Stp.call rfl Try.call17 (lks rfl) (fun E' le hat => rhas_g E' _ _ _ _ ⟨_, _, _, rfl⟩) ?_) rfl
          rintro _ _ ⟨rfl, rfl⟩
          refine AE.u 14 rfl (by decide +kernel) (Dtu.neB Try.underlying4 (lk rfl) (lk rfl)) rfl ?_
          refine AE.u 15 rfl (by decide +kernel) (Dtu.mv (lk rfl)) rfl ?_
          refine AE.decP 92 rfl (fun hy => absurd hy (nbneOf hd (decide_eq_false (by first | omega | assumption | decide)) rfl)) (fun _ => ?_)
          refine AE.gu 16 rfl (by decide +kernel) rfl rfl rfl (Dtu.mv (lk rfl)) rfl ?_
          refine AE.gu 17 rfl (by decide +kernel) rfl rfl rfl (Dtu.eql (lk rfl) (lk rfl)) rfl ?_
          refine AE.gu 18 rfl (by decide +kernel) rfl rfl rfl (Dtu.mv (lk rfl)) rfl ?_
          refine AE.decP 95 rfl (fun hy => absurd hy (by first | omega | assumption | decide)) (fun _ => ?_)
          refine AE.gn 19 rfl (by decide +kernel) rfl rfl rfl rfl rfl ?_
          refine AE.gn 20 rfl (by decide +kernel) rfl rfl rfl rfl rfl ?_
          refine AE.gn 21 rfl (by decide +kernel) rfl rfl rfl rfl rfl ?_
          refine AE.gn 22 rfl (by decide +kernel) rfl rfl rfl rfl rfl ?_
          refine AE.gn 23 rfl (by decide +kernel) rfl rfl rfl rfl rfl ?_
          refine AE.gn 24 rfl (by decide +kernel) rfl rfl rfl rfl rfl ?_
          refine AE.gn 25 rfl (by decide +kernel) rfl rfl rfl rfl rfl ?_
          refine AE.gn 26 rfl (by decide +kernel) rfl rfl rfl rfl rfl ?_
          refine AE.gn 27 rfl (by decide +kernel) rfl rfl rfl rfl rfl ?_
          refine AE.gn 28 rfl (by decide +kernel) rfl rfl rfl rfl rfl ?_
          refine AE.gn 29 rfl (by decide +kernel) rfl rfl rfl rfl rfl ?_
          refine AE.gn 30 rfl (by decide +kernel) rfl rfl rfl rfl rfl ?_
          refine AE.gn 31 rfl (by decide +kernel) rfl rfl rfl rfl rfl ?_
          refine AE.gn 32 rfl (by decide +kernel) rfl rfl rfl rfl rfl ?_
          refine AE.gn 33 rfl (by decide +kernel) rfl rfl rfl rfl rfl ?_
          refine AE.gu 34 rfl (by decide +kernel) rfl rfl rfl (Dtu.pickF (lk rfl) (lk rfl)) rfl ?_
          refine AE.u 35 rfl (by decide +kernel) (Dtu.pickF (lk rfl) (lk rfl)) rfl ?_
          refine AE.u 36 rfl (by decide +kernel) (Dtu.mv (lk rfl)) rfl ?_
          refine AE.gu 37 rfl (by decide +kernel) rfl rfl rfl (Dtu.mv (lk rfl)) rfl ?_
          refine AE.gu 38 rfl (by decide +kernel) rfl rfl rfl (Dtu.neq (lk rfl) (lk rfl)) rfl ?_
          refine AE.gu 39 rfl (by decide +kernel) rfl rfl rfl (Dtu.mv (lk rfl)) rfl ?_
          refine AE.decP 116 rfl (fun _ => ?_) (fun hn => absurd (by first | omega | assumption | decide) hn)
          refine AE.gu 40 rfl (by decide +kernel) rfl rfl rfl (Dtu.mv (lk rfl)) rfl ?_
          refine AE.gu 41 rfl (by decide +kernel) rfl rfl rfl (Dtu.neq (lk rfl) (lk rfl)) rfl ?_
          refine AE.gu 42 rfl (by decide +kernel) rfl rfl rfl (Dtu.pickT (lk rfl) (lk rfl)) rfl ?_
          refine AE.u 43 rfl (by decide +kernel) (Dtu.pickF (lk rfl) (lk rfl)) rfl ?_
          refine AE.done (by decide +kernel) ?_
          refine Then.next ?_
          refine Body.condP (lk rfl) (fun hy => absurd hy (by first | omega | assumption | decide)) (fun _ => ?_)
          refine Body.skip ?_
          refine Blk.norm ?_
          refine Then.next ?_
          refine Body.region ?_
          refine Ops.u (Dtu.mv (lk rfl)) rfl ?_
          refine Ops.u (Dtu.add (lk rfl) (lk rfl) (w64 (by omega) (by omega))) rfl ?_
          refine Ops.u (Dtu.asg (lk rfl)) rfl ?_
          refine Ops.nil ?_
          refine Round.goK [3, 1, 0] ⟨i + 1, dg57, da57, dm57⟩ rfl rfl rfl ⟨rfl, trivial⟩ rfl rfl ⟨hlt1, ok2, hgi2⟩ (by dsimp only; omega)
    · refine Body.seq ?_
      refine Body.seq ?_
      refine Body.region ?_
      refine Ops.u (Dtu.mv (lk rfl)) rfl ?_
      refine Ops.u (Dtu.mv (lk rfl)) rfl ?_
      refine Ops.u (Dtu.lenS Try.underlying22 (Sl.up hv) (lk rfl)) rfl ?_
      refine Ops.u (Dtu.lss (lk rfl) (lk rfl)) rfl ?_
      refine Ops.u (Dtu.mv (lk rfl)) rfl ?_
      refine Ops.decP 44 rfl (fun c44 => ?_) (fun c44 => ?_)
      · refine Ops.gu rfl rfl rfl (Dtu.mv (lk rfl)) rfl ?_
        refine Ops.gu rfl rfl rfl (Dtu.lss (lk rfl) (lk rfl)) rfl ?_
        refine Ops.u (Dtu.pickT (lk rfl) (lk rfl)) rfl ?_
        refine Ops.nil ?_
        refine Then.next ?_
        refine Body.condP (lk rfl) (fun hy => absurd hy (by first | omega | assumption | decide)) (fun _ => ?_)
        refine Body.exit ?_
        refine Then.exit ?_
        refine Round.exit ?_
        refine Blk.here ?_
        refine Then.next ?_
        refine Body.seq ?_
        refine Body.drawE [0] mixed rfl ?_
        rintro E17' le17 ⟨hA17_0, -⟩
        have hv_17 := Sl.mono hv le17
        refine AE.more [0] (by decide +kernel) rfl ⟨?_, trivial⟩
        refine AEI.s rfl (Stp.call rfl Try.call14 (lks rfl) (fun E' le hat => alive17_ok E') ?_) rfl
        rintro _ _ ⟨rfl, rfl⟩
        refine AE.u 1 rfl (by decide +kernel) (Dtu.mv (lk rfl)) rfl ?_
        refine AE.gu 2 rfl (by decide +kernel) rfl rfl rfl (Dtu.mv (lk rfl)) rfl ?_
        refine AE.gd 4 rfl (by decide +kernel) rfl rfl rfl (Det.lda Try.isAgg29 Try.sizeOf29 (lk rfl) (Rds.at (m := 3) hA17_0 rfl) rfl) rfl ?_
        refine AE.more [3] (by decide +kernel) rfl ⟨?_, trivial⟩
        refine AEI.gs rfl rfl rfl rfl (Stp.callOwn [1] rfl rfl Try.call21 (lks rfl) (fun E' le hat => as17_ok E' _ _ (by first | assumption | omega) (by first | assumption | omega)) ?_) rfl
        rintro _ _ ⟨aa124, ac124, rfl, rfl⟩
        refine AE.more [5] (by decide +kernel) rfl ⟨?_, trivial⟩
        refine AEI.gs rfl rfl rfl rfl (Stp.call rfl Try.call20 (lks rfl) (fun E' le hat => rsame_ok E' _ _ _ _ (by first | assumption | omega) (by first | assumption | omega) (by first | exact Sl.mono (by assumption) le | exact Sl.hatI hat 0 rfl | exact Sl.hatI hat 1 rfl | exact Sl.hatI hat 2 rfl | exact Sl.hatI hat 3 rfl | exact Sl.hatI hat 4 rfl | exact Sl.hatI hat 5 rfl | exact Sl.hatI hat 6 rfl | exact Sl.hatI hat 7 rfl | exact Sl.hatI hat 8 rfl | exact Sl.hatI hat 9 rfl | exact Sl.hatI hat 10 rfl | exact Sl.hatI hat 11 rfl | exact Sl.hatI hat 12 rfl | exact Sl.hatI hat 13 rfl | exact Sl.hatI hat 14 rfl | exact Sl.hatI hat 15 rfl) (by first | exact Sl.mono (by assumption) le | exact Sl.hatI hat 0 rfl | exact Sl.hatI hat 1 rfl | exact Sl.hatI hat 2 rfl | exact Sl.hatI hat 3 rfl | exact Sl.hatI hat 4 rfl | exact Sl.hatI hat 5 rfl | exact Sl.hatI hat 6 rfl | exact Sl.hatI hat 7 rfl | exact Sl.hatI hat 8 rfl | exact Sl.hatI hat 9 rfl | exact Sl.hatI hat 10 rfl | exact Sl.hatI hat 11 rfl | exact Sl.hatI hat 12 rfl | exact Sl.hatI hat 13 rfl | exact Sl.hatI hat 14 rfl | exact Sl.hatI hat 15 rfl)) ?_) rfl
        rintro _ _ ⟨rfl, rfl⟩
        refine AE.u 6 rfl (by decide +kernel) (Dtu.pickT (lk rfl) (lk rfl)) rfl ?_
        refine AE.u 7 rfl (by decide +kernel) (Dtu.asg (lk rfl)) rfl ?_
        refine AE.done (by decide +kernel) ?_
        refine Then.next ?_
        refine Body.ret ?_
        exact ⟨.inr rfl, _, pk [] rfl, by rw [fin]; rfl, rfl⟩
      · refine Ops.gn rfl rfl rfl rfl rfl ?_
        refine Ops.gn rfl rfl rfl rfl rfl ?_
        refine Ops.u (Dtu.pickF (lk rfl) (lk rfl)) rfl ?_
        refine Ops.nil ?_
        refine Then.next ?_
        refine Body.condF (lk rfl) ?_
        refine Body.exit ?_
        refine Then.exit ?_
        refine Round.exit ?_
        refine Blk.here ?_
        refine Then.next ?_
        refine Body.seq ?_
        refine Body.drawE [0] mixed rfl ?_
        rintro E17' le17 ⟨hA17_0, -⟩
        have hv_17 := Sl.mono hv le17
        refine AE.more [0] (by decide +kernel) rfl ⟨?_, trivial⟩
        refine AEI.s rfl (Stp.call rfl Try.call14 (lks rfl) (fun E' le hat => alive17_ok E') ?_) rfl
        rintro _ _ ⟨rfl, rfl⟩
        refine AE.u 1 rfl (by decide +kernel) (Dtu.mv (lk rfl)) rfl ?_
        refine AE.gu 2 rfl (by decide +kernel) rfl rfl rfl (Dtu.mv (lk rfl)) rfl ?_
        refine AE.gd 4 rfl (by decide +kernel) rfl rfl rfl (Det.lda Try.isAgg29 Try.sizeOf29 (lk rfl) (Rds.at (m := 3) hA17_0 rfl) rfl) rfl ?_
        refine AE.more [3] (by decide +kernel) rfl ⟨?_, trivial⟩
        refine AEI.gs rfl rfl rfl rfl (Stp.callOwn [1] rfl rfl Try.call21 (lks rfl) (fun E' le hat => as17_ok E' _ _ (by first | assumption | omega) (by first | assumption | omega)) ?_) rfl
        rintro _ _ ⟨aa124, ac124, rfl, rfl⟩
        refine AE.more [5] (by decide +kernel) rfl ⟨?_, trivial⟩
        refine AEI.gs rfl rfl rfl rfl (Stp.call rfl Try.call20 (lks rfl) (fun E' le hat => rsame_ok E' _ _ _ _ (by first | assumption | omega) (by first | assumption | omega) (by first | exact Sl.mono (by assumption) le | exact Sl.hatI hat 0 rfl | exact Sl.hatI hat 1 rfl | exact Sl.hatI hat 2 rfl | exact Sl.hatI hat 3 rfl | exact Sl.hatI hat 4 rfl | exact Sl.hatI hat 5 rfl | exact Sl.hatI hat 6 rfl | exact Sl.hatI hat 7 rfl | exact Sl.hatI hat 8 rfl | exact Sl.hatI hat 9 rfl | exact Sl.hatI hat 10 rfl | exact Sl.hatI hat 11 rfl | exact Sl.hatI hat 12 rfl | exact Sl.hatI hat 13 rfl | exact Sl.hatI hat 14 rfl | exact Sl.hatI hat 15 rfl) (by first | exact Sl.mono (by assumption) le | exact Sl.hatI hat 0 rfl | exact Sl.hatI hat 1 rfl | exact Sl.hatI hat 2 rfl | exact Sl.hatI hat 3 rfl | exact Sl.hatI hat 4 rfl | exact Sl.hatI hat 5 rfl | exact Sl.hatI hat 6 rfl | exact Sl.hatI hat 7 rfl | exact Sl.hatI hat 8 rfl | exact Sl.hatI hat 9 rfl | exact Sl.hatI hat 10 rfl | exact Sl.hatI hat 11 rfl | exact Sl.hatI hat 12 rfl | exact Sl.hatI hat 13 rfl | exact Sl.hatI hat 14 rfl | exact Sl.hatI hat 15 rfl)) ?_) rfl
        rintro _ _ ⟨rfl, rfl⟩
        refine AE.u 6 rfl (by decide +kernel) (Dtu.pickT (lk rfl) (lk rfl)) rfl ?_
        refine AE.u 7 rfl (by decide +kernel) (Dtu.asg (lk rfl)) rfl ?_
        refine AE.done (by decide +kernel) ?_
        refine Then.next ?_
        refine Body.ret ?_
        exact ⟨.inr rfl, _, pk [] rfl, by rw [fin]; rfl, rfl⟩
end Go.Proofs.Ytpmapedhigjalaa
end
section
/- Calls as arguments, for the grid's statements. -/
namespace Go.Proofs.Ytpmapedhigjalaa
set_option maxRecDepth 100000
set_option linter.unusedVariables false
set_option linter.unusedSimpArgs false
open Go.Sx Go.ChangeShapes Go.RowKit
section
variable {H : Type} {enc : TypeId × Value → H} {W : World} {base : Nat} {held : Bool} {fuel : Nat} {cs : List Value} {x : DataW H × List MemPlace}
theorem trod_ops (h : DataW.trod enc Try.prog W base (fun _ => true) held fuel 22 cs = some x) : ∃ (s : Value) (l : List GOp), cs = [s] ∧ Sl (envOf W) [] 8 s l.length (l.flatMap GOp.enc) ∧ ∀ o ∈ l, o.c.In := by
  obtain ⟨s, l, h1, h2, h3⟩ := trod_list Try.underlying22 cells8_op (by omega) (fun _ => rfl) (fun h => trod_op h) h
  exact ⟨s, l, h1, h2, fun o ho => (h3 o ho).1⟩
end
end Go.Proofs.Ytpmapedhigjalaa
end
section
/- A grid behind calls. -/
namespace Go.Proofs.Ytpmapedhigjalaa
set_option maxRecDepth 100000
set_option maxHeartbeats 4000000
set_option linter.unusedVariables false
set_option linter.unusedSimpArgs false
open Go.Sx

theorem made17_no (E : Env) (rows cols : Int) (v : Value) (hf : fitsG rows cols = false) : Does Try.prog 22 #[.int .i64 rows, .int .i64 cols, v] E ([]) fun r H' => r = .pointer none ∧ H' = [] := by
  refine Does.go _ _ Try.func22 rfl Try.ntmps22 rfl rfl ?_
  refine Body.seq ?_
  refine Body.region ?_
  refine Ops.u (Dtu.asg (lk rfl)) rfl ?_
  refine Ops.nil ?_
  refine Then.next ?_
  refine Body.seq ?_
  refine Body.region ?_
  refine Ops.u (Dtu.mv (lk rfl)) rfl ?_
  refine Ops.u (Dtu.mv (lk rfl)) rfl ?_
  refine Ops.s (Stp.call rfl Try.call12 (lks rfl) (fun E' le hat => gnew_no E' _ _ (by assumption)) ?_) rfl
  rintro _ _ ⟨rfl, rfl⟩
  refine Ops.u (Dtu.mv (lk rfl)) rfl ?_
  refine Ops.u (Dtu.ext (lk rfl) rfl) rfl ?_
  refine Ops.u (Dtu.ext (lk rfl) rfl) rfl ?_
  refine Ops.u (Dtu.asg (lk rfl)) rfl ?_
  refine Ops.u (Dtu.asg (lk rfl)) rfl ?_
  refine Ops.nil ?_
  refine Then.next ?_
  refine Body.seq ?_
  refine Body.seq ?_
  refine Body.region ?_
  refine Ops.u (Dtu.mv (lk rfl)) rfl ?_
  refine Ops.u (Dtu.neq (lk rfl) (lk rfl)) rfl ?_
  refine Ops.u (Dtu.mv (lk rfl)) rfl ?_
  refine Ops.decP 19 rfl (fun _ => ?_) (fun hn => absurd (by first | omega | assumption | decide) hn)
  refine Ops.gn rfl rfl rfl rfl rfl ?_
  refine Ops.gn rfl rfl rfl rfl rfl ?_
  refine Ops.u (Dtu.pickT (lk rfl) (lk rfl)) rfl ?_
  refine Ops.nil ?_
  refine Then.next ?_
  refine Body.condT (lk rfl) ?_
  refine Body.seq ?_
  refine Body.region ?_
  refine Ops.u (Dtu.asg (lk rfl)) rfl ?_
  refine Ops.nil ?_
  refine Then.next ?_
  refine Body.ret ?_
  refine Then.ret ?_
  exact ⟨.inr rfl, _, pk [] rfl, rfl, rfl⟩
theorem made17_ok (E : Env) (rows cols : Int) (v : Value) (ops : List GOp) (hf : fitsG rows cols = true) (hin : ∀ o ∈ ops, o.c.In) (hv : Sl E [] 8 v ops.length (ops.flatMap GOp.enc)) : Does Try.prog 22 #[.int .i64 rows, .int .i64 cols, v] E ([]) fun r H' => ∃ b g, g.Ok ∧ g.In ∧ r = .pointer (some ⟨b, 0, none⟩) ∧ H' = [gridP b g] := by
  refine Does.pure hv.len fun hlen => ?_
  have ok0 := Gd.new_ok hf
  have in0 := Gd.new_in rows cols
  refine Does.go _ _ Try.func22 rfl Try.ntmps22 rfl rfl ?_
  refine Body.seq ?_
  refine Body.region ?_
  refine Ops.u (Dtu.asg (lk rfl)) rfl ?_
  refine Ops.nil ?_
  refine Then.next ?_
  refine Body.seq ?_
  refine Body.region ?_
  refine Ops.u (Dtu.mv (lk rfl)) rfl ?_
  refine Ops.u (Dtu.mv (lk rfl)) rfl ?_
  refine Ops.s (Stp.call rfl Try.call12 (lks rfl) (fun E' le hat => new_g E' _ _ (by first | assumption | omega)) ?_) rfl
  rintro _ _ ⟨nb14, rfl, rfl⟩
  refine Ops.u (Dtu.mv (lk rfl)) rfl ?_
  refine Ops.u (Dtu.ext (lk rfl) rfl) rfl ?_
  refine Ops.u (Dtu.ext (lk rfl) rfl) rfl ?_
  refine Ops.u (Dtu.asg (lk rfl)) rfl ?_
  refine Ops.u (Dtu.asg (lk rfl)) rfl ?_
  refine Ops.nil ?_
  refine Then.next ?_
  refine Body.seq ?_
  refine Body.seq ?_
  refine Body.region ?_
  refine Ops.u (Dtu.mv (lk rfl)) rfl ?_
  refine Ops.u (Dtu.neq (lk rfl) (lk rfl)) rfl ?_
  refine Ops.u (Dtu.mv (lk rfl)) rfl ?_
  refine Ops.decP 19 rfl (fun hy => absurd hy (by first | omega | assumption | decide)) (fun _ => ?_)
  refine Ops.gu rfl rfl rfl (Dtu.mv (lk rfl)) rfl ?_
  refine Ops.gu rfl rfl rfl (Dtu.eqNil Try.underlying23 (lk rfl) (lk rfl)) rfl ?_
  refine Ops.u (Dtu.pickF (lk rfl) (lk rfl)) rfl ?_
  refine Ops.nil ?_
  refine Then.next ?_
  refine Body.condF (lk rfl) ?_
  refine Body.skip ?_
  refine Then.next ?_
  refine Body.seq ?_
  refine Body.region ?_
  refine Ops.u (Dtu.mv (lk rfl)) rfl ?_
  refine Ops.s (Stp.callOwn [0] rfl rfl Try.call21 (lks rfl) (fun E' le hat => as17_ok E' _ _ (by first | assumption | omega) (by first | assumption | omega)) ?_) rfl
  rintro _ _ ⟨aa24, ac24, rfl, rfl⟩
  refine Ops.s (Stp.alloc ty29 (fun b9 => ?_)) rfl
  refine Ops.e (Stp.store 0 Try.sizeOf29 (lk rfl) (lk rfl) rfl rfl rfl rfl rfl rfl rfl ?_)
  refine Ops.nil ?_
  refine Then.next ?_
  refine Body.seq ?_
  refine Body.seq ?_
  refine Body.region ?_
  refine Ops.u (Dtu.asg (lk rfl)) rfl ?_
  refine Ops.nil ?_
  refine Then.next ?_
  refine Body.block ?_

  refine Body.loopH (γ := GLv) rfl (fun s => [(10, .int .i64 s.i)]) (fun s => [(0, own b9 [.int .i64 s.g.r, .int .i64 s.g.c, .slice s.a (s.g.r * s.g.c) s.c] 29), (1, gridP nb14 s.g), (2, osl 49 11 (.slice s.a (s.g.r * s.g.c) s.c) (s.g.r * s.g.c) (s.g.flat.flatMap Cell.renc))]) (fun s => s.i ≤ ops.length ∧ s.g.Ok ∧ s.g.In) (fun s => ops.length - s.i) (⟨0, Gd.new rows cols, aa24, ac24⟩) (⟨Nat.zero_le _, ok0, in0⟩) ⟨rfl, trivial⟩ rfl ?_
  rintro ⟨i, g, a, c⟩ u ⟨hi, ok, hgi⟩
  dsimp only at hi ok hgi ⊢
  by_cases hlt : i < ops.length ∧ i < 30
  · have hlt1 := hlt.1
    have ho : ops[i]! ∈ ops := by rw [getElem!_pos ops i hlt.1]; exact List.getElem_mem _
    have hoi := hin _ ho
    have ho1 := hoi.1
    have ho2 := hoi.2.1
    refine Body.seq ?_
    refine Body.seq ?_
    refine Body.region ?_
    refine Ops.u (Dtu.mv (lk rfl)) rfl ?_
    refine Ops.u (Dtu.mv (lk rfl)) rfl ?_
    refine Ops.u (Dtu.lenS Try.underlying22 (Sl.up hv) (lk rfl)) rfl ?_
    refine Ops.u (Dtu.lss (lk rfl) (lk rfl)) rfl ?_
    refine Ops.u (Dtu.mv (lk rfl)) rfl ?_
    refine Ops.decP 29 rfl (fun _ => ?_) (fun hn => absurd (by first | omega | assumption | decide) hn)
    refine Ops.gu rfl rfl rfl (Dtu.mv (lk rfl)) rfl ?_
    refine Ops.gu rfl rfl rfl (Dtu.lss (lk rfl) (lk rfl)) rfl ?_
    refine Ops.u (Dtu.pickT (lk rfl) (lk rfl)) rfl ?_
    refine Ops.nil ?_
    refine Then.next ?_
    refine Body.condP (lk rfl) (fun _ => ?_) (fun hn => absurd (by first | omega | assumption | decide) hn)
    refine Body.skip ?_
    refine Then.next ?_
    refine Body.seq ?_
    refine Body.block ?_
    refine Body.draw mixed ?_
    refine AB.u 0 rfl (by decide +kernel) (Dtu.mv (lk rfl)) rfl ?_
    refine AB.d 1 rfl (by decide +kernel) rfl (Det.lda Try.isAgg29 Try.sizeOf29 (lk rfl) (Rds.ow (m := 3) 0 rfl rfl) rfl) rfl ?_
    refine AB.u 2 rfl (by decide +kernel) (Dtu.mv (lk rfl)) rfl ?_
    refine AB.u 3 rfl (by decide +kernel) (Dtu.mv (lk rfl)) rfl ?_
    refine AB.u 4 rfl (by decide +kernel) (Dtu.ix (i := (i)) Try.underlying22 Try.sizeOf41 (Sl.up hv) (lk rfl) (lk rfl) (by omega) (by omega)) rfl ?_
    refine AB.d 5 rfl (by decide +kernel) rfl (Det.lda Try.isAgg41 Try.sizeOf41 (lk rfl) (Rds.sl (Sl.up hv) (gf (sz := 8) (fun _ => rfl) (by omega))) rfl) rfl ?_
    refine AB.s 6 rfl (by decide +kernel) (by decide +kernel) (Stp.callOwn [1, 1] rfl rfl Try.call15 (lks rfl) (fun E' le hat => do17_ok E' _ _ _ _ _ _ _ _ _ _ _ _ (by first | assumption | omega) (by first | assumption | omega) (by first | assumption | omega)) ?_) rfl
    rintro _ _ ⟨da42, dm42, dg42, hdg42, rfl, rfl⟩
    refine AB.u 7 rfl (by decide +kernel) (Dtu.mv (lk rfl)) rfl ?_
    refine AB.u 8 rfl (by decide +kernel) (Dtu.ext (lk rfl) rfl) rfl ?_
    refine AB.u 9 rfl (by decide +kernel) (Dtu.ext (lk rfl) rfl) rfl ?_
    refine AB.e 10 rfl (by decide +kernel) (by decide +kernel) (Stp.store 2 Try.sizeOf29 (lk rfl) (lk rfl) rfl rfl rfl rfl rfl rfl rfl ?_)
    refine AB.done (by decide +kernel) ?_
    refine Blk.norm ?_
    refine Then.next ?_
    refine Body.region ?_
    refine Ops.u (Dtu.mv (lk rfl)) rfl ?_
    refine Ops.u (Dtu.add (lk rfl) (lk rfl) (w64 (by omega) (by omega))) rfl ?_
    refine Ops.u (Dtu.asg (lk rfl)) rfl ?_
    refine Ops.nil ?_
    have ok2 : dg42.Ok := by rw [hdg42]; exact Gd.op_ok ok ops[i]!
    have hgi2 : dg42.In := by rw [hdg42]; exact Gd.op_in hgi ops[i]! hoi
    refine Round.goK [2, 0, 0] ⟨i + 1, dg42, da42, dm42⟩ rfl rfl rfl ⟨rfl, trivial⟩ rfl rfl ⟨hlt1, ok2, hgi2⟩ (by dsimp only; omega)
  · refine Body.seq ?_
    refine Body.seq ?_
    refine Body.region ?_
    refine Ops.u (Dtu.mv (lk rfl)) rfl ?_
    refine Ops.u (Dtu.mv (lk rfl)) rfl ?_
    refine Ops.u (Dtu.lenS Try.underlying22 (Sl.up hv) (lk rfl)) rfl ?_
    refine Ops.u (Dtu.lss (lk rfl) (lk rfl)) rfl ?_
    refine Ops.u (Dtu.mv (lk rfl)) rfl ?_
    refine Ops.decP 29 rfl (fun c29 => ?_) (fun c29 => ?_)
    · refine Ops.gu rfl rfl rfl (Dtu.mv (lk rfl)) rfl ?_
      refine Ops.gu rfl rfl rfl (Dtu.lss (lk rfl) (lk rfl)) rfl ?_
      refine Ops.u (Dtu.pickT (lk rfl) (lk rfl)) rfl ?_
      refine Ops.nil ?_
      refine Then.next ?_
      refine Body.condP (lk rfl) (fun hy => absurd hy (by first | omega | assumption | decide)) (fun _ => ?_)
      refine Body.exit ?_
      refine Then.exit ?_
      refine Round.exit ?_
      refine Blk.here ?_
      refine Then.next ?_
      refine Body.seq ?_
      refine Body.region ?_
      refine Ops.u (Dtu.mv (lk rfl)) rfl ?_
      refine Ops.u (Dtu.asg (lk rfl)) rfl ?_
      refine Ops.nil ?_
      refine Then.next ?_
      refine Body.ret ?_
      exact ⟨.inr rfl, _, pk [1] rfl, nb14, g, ok, hgi, rfl, rfl⟩
    · refine Ops.gn rfl rfl rfl rfl rfl ?_
      refine Ops.gn rfl rfl rfl rfl rfl ?_
      refine Ops.u (Dtu.pickF (lk rfl) (lk rfl)) rfl ?_
      refine Ops.nil ?_
      refine Then.next ?_
      refine Body.condF (lk rfl) ?_
      refine Body.exit ?_
      refine Then.exit ?_
      refine Round.exit ?_
      refine Blk.here ?_
      refine Then.next ?_
      refine Body.seq ?_
      refine Body.region ?_
      refine Ops.u (Dtu.mv (lk rfl)) rfl ?_
      refine Ops.u (Dtu.asg (lk rfl)) rfl ?_
      refine Ops.nil ?_
      refine Then.next ?_
      refine Body.ret ?_
      exact ⟨.inr rfl, _, pk [1] rfl, nb14, g, ok, hgi, rfl, rfl⟩
end Go.Proofs.Ytpmapedhigjalaa
end
section
/- GridCopies: the walk. -/
namespace Go.Proofs.Ytpmapedhigjalaa
set_option maxRecDepth 100000
set_option maxHeartbeats 4000000
set_option linter.unusedVariables false
set_option linter.unusedSimpArgs false
open Go.Sx

theorem same_self (g : Gd) : g.same g = true := by simp [Gd.same]
theorem css_at2 {g : Gd} {i k : Nat} (hi : i < g.r) (hk : k < g.c) : (g.css[i]!)[k]! = g.f i k := by rw [css_at hi, tabR_at hk]
theorem same_rSame {g o : Gd} (ok : g.Ok) (ok2 : o.Ok) (gi : g.In) (oi : o.In) : g.same o = rSame g o := by
  rw [Bool.eq_iff_iff]
  constructor
  · intro h
    simp only [Gd.same, decide_eq_true_eq] at h
    have hr : g.r = o.r := by have := congrArg List.length h.2; rwa [Gd.css, Gd.css, tab_len, tab_len] at this
    refine rSame_all hr h.1 fun j hj => ?_
    have hj2 : j < o.r * o.c := by rw [← hr, ← h.1]; exact hj
    have e : g.flat[j]! = o.flat[j]! := by
      have hc0 : 0 < g.c := by have := ok.c; omega
      rw [flat_at hj, flat_at hj2, ← h.1, ← css_at2 (div_lt' hj) (Nat.mod_lt _ hc0), ← css_at2 (g := o) (by rw [← hr]; exact div_lt' hj) (by rw [← h.1]; exact Nat.mod_lt _ hc0), h.2]
    rw [e]; exact rEq_self _
  · intro h
    simp only [rSame, Bool.and_eq_true, decide_eq_true_eq, List.all_eq_true, List.mem_range] at h
    obtain ⟨⟨hr, hc⟩, h⟩ := h
    simp only [Gd.same, decide_eq_true_eq]
    refine ⟨hc, ?_⟩
    unfold Gd.css
    rw [← hr, ← hc]
    refine tab_congr fun i k hi hk => ?_
    have := h (i * g.c + k) (idx_lt hi hk)
    rw [flat_rc hi hk, hc, flat_rc (g := o) (by omega) (by omega)] at this
    exact (rEq_iff ⟨(gi i k).1, (gi i k).2.1⟩ ⟨(oi i k).1, (oi i k).2.1⟩).1 this
theorem copies17_ok (E : Env) (rows cols : Int) (v v2 : Value) (ops ops2 : List GOp) (hin : ∀ o ∈ ops, o.c.In) (hin2 : ∀ o ∈ ops2, o.c.In) (hv : Sl E [] 8 v ops.length (ops.flatMap GOp.enc)) (hv2 : Sl E [] 8 v2 ops2.length (ops2.flatMap GOp.enc)) : Does Try.prog 6 #[.int .i64 rows, .int .i64 cols, v, v2] E ([]) fun r H' => r = .bool true ∧ H' = [] := by
  refine Does.pure hv.len fun hlen => ?_
  refine Does.pure hv2.len fun hlen2 => ?_
  cases hf : fitsG rows cols
  · refine Does.go _ _ Try.func6 rfl Try.ntmps6 rfl rfl ?_
    refine Body.seq ?_
    refine Body.region ?_
    refine Ops.u (Dtu.asg (lk rfl)) rfl ?_
    refine Ops.nil ?_
    refine Then.next ?_
    refine Body.seq ?_
    refine Body.region ?_
    refine Ops.u (Dtu.mv (lk rfl)) rfl ?_
    refine Ops.u (Dtu.mv (lk rfl)) rfl ?_
    refine Ops.u (Dtu.mv (lk rfl)) rfl ?_
    refine Ops.s (Stp.call rfl Try.call22 (lks rfl) (fun E' le hat => made17_no E' _ _ _ (by first | assumption | omega)) ?_) rfl
    rintro _ _ ⟨rfl, rfl⟩
    refine Ops.u (Dtu.asg (lk rfl)) rfl ?_
    refine Ops.nil ?_
    refine Then.next ?_
    refine Body.seq ?_
    refine Body.seq ?_
    refine Body.region ?_
    refine Ops.u (Dtu.mv (lk rfl)) rfl ?_
    refine Ops.u (Dtu.eqNil Try.underlying23 (lk rfl) (lk rfl)) rfl ?_
    refine Ops.nil ?_
    refine Then.next ?_
    refine Body.condT (lk rfl) ?_
    refine Body.seq ?_
    refine Body.region ?_
    refine Ops.s (Stp.call rfl Try.call14 (lks rfl) (fun E' le hat => alive17_ok E') ?_) rfl
    rintro _ _ ⟨rfl, rfl⟩
    refine Ops.u (Dtu.asg (lk rfl)) rfl ?_
    refine Ops.nil ?_
    refine Then.next ?_
    refine Body.ret ?_
    refine Then.ret ?_
    exact ⟨.inr rfl, _, pk [] rfl, rfl, rfl⟩
  · refine Does.go _ _ Try.func6 rfl Try.ntmps6 rfl rfl ?_
    refine Body.seq ?_
    refine Body.region ?_
    refine Ops.u (Dtu.asg (lk rfl)) rfl ?_
    refine Ops.nil ?_
    refine Then.next ?_
    refine Body.seq ?_
    refine Body.region ?_
    refine Ops.u (Dtu.mv (lk rfl)) rfl ?_
    refine Ops.u (Dtu.mv (lk rfl)) rfl ?_
    refine Ops.u (Dtu.mv (lk rfl)) rfl ?_
    refine Ops.s (Stp.call rfl Try.call22 (lks rfl) (fun E' le hat => made17_ok E' _ _ v ops (by assumption) hin (Sl.mono hv le)) ?_) rfl
    rintro _ _ ⟨mb17, mg17, mok17, min17, rfl, rfl⟩
    refine Ops.u (Dtu.asg (lk rfl)) rfl ?_
    refine Ops.nil ?_
    refine Then.next ?_
    refine Body.seq ?_
    refine Body.seq ?_
    refine Body.region ?_
    refine Ops.u (Dtu.mv (lk rfl)) rfl ?_
    refine Ops.u (Dtu.eqNil Try.underlying23 (lk rfl) (lk rfl)) rfl ?_
    refine Ops.nil ?_
    refine Then.next ?_
    refine Body.condF (lk rfl) ?_
    refine Body.skip ?_
    refine Then.next ?_
    have hss := same_self mg17
    refine Body.seq ?_
    refine Body.region ?_
    refine Ops.u (Dtu.mv (lk rfl)) rfl ?_
    refine Ops.s (Stp.callOwn [0] rfl rfl Try.call21 (lks rfl) (fun E' le hat => as17_ok E' _ _ (by first | assumption | omega) (by first | assumption | omega)) ?_) rfl
    rintro _ _ ⟨aa22, ac22, rfl, rfl⟩
    refine Ops.s (Stp.alloc ty29 (fun b10 => ?_)) rfl
    refine Ops.e (Stp.store 0 Try.sizeOf29 (lk rfl) (lk rfl) rfl rfl rfl rfl rfl rfl rfl ?_)
    refine Ops.nil ?_
    refine Then.next ?_
    refine Body.seq ?_
    refine Body.region ?_
    refine Ops.u (Dtu.mv (lk rfl)) rfl ?_
    refine Ops.s (Stp.callOwn [1] rfl rfl Try.call34 (lks rfl) (fun E' le hat => copy_g E' _ _) ?_) rfl
    rintro _ _ ⟨cb24, rfl, rfl⟩
    refine Ops.u (Dtu.asg (lk rfl)) rfl ?_
    refine Ops.nil ?_
    refine Then.next ?_
    refine Body.seq ?_
    refine Body.seq ?_
    refine Body.region ?_
    refine Ops.u (Dtu.mv (lk rfl)) rfl ?_
    refine Ops.u (Dtu.eqNil Try.underlying23 (lk rfl) (lk rfl)) rfl ?_
    refine Ops.u (Dtu.mv (lk rfl)) rfl ?_
    refine Ops.gu rfl rfl rfl (Dtu.mv (lk rfl)) rfl ?_
    refine Ops.gu rfl rfl rfl (Dtu.mv (lk rfl)) rfl ?_
    refine Ops.gs rfl rfl rfl (Stp.callOwn [1, 0] rfl rfl Try.call35 (lks rfl) (fun E' le hat => same_g E' _ _ _ _) ?_) rfl
    rintro _ _ ⟨rfl, rfl⟩
    refine Ops.gu rfl rfl rfl (Dtu.not (lk rfl)) rfl ?_
    refine Ops.u (Dtu.pickF (lk rfl) (lk rfl)) rfl ?_
    refine Ops.u (Dtu.mv (lk rfl)) rfl ?_
    refine Ops.dec 33 rfl (fun hn => absurd hn (by first | (rw [hss]; decide) | simp [hss])) (fun _ => ?_)
    refine Ops.gu rfl rfl rfl (Dtu.mv (lk rfl)) rfl ?_
    refine Ops.gu rfl rfl rfl (Dtu.mv (lk rfl)) rfl ?_
    refine Ops.gs rfl rfl rfl (Stp.callOwn [1, 0] rfl rfl Try.call35 (lks rfl) (fun E' le hat => same_g E' _ _ _ _) ?_) rfl
    rintro _ _ ⟨rfl, rfl⟩
    refine Ops.gu rfl rfl rfl (Dtu.not (lk rfl)) rfl ?_
    refine Ops.u (Dtu.pickF (lk rfl) (lk rfl)) rfl ?_
    refine Ops.nil ?_
    refine Then.next ?_
    refine Body.cond (lk rfl) (fun hn => absurd hn (by first | (rw [hss]; decide) | simp [hss])) (fun _ => ?_)
    refine Body.skip ?_
    refine Then.next ?_
    refine Body.seq ?_
    refine Body.region ?_
    refine Ops.u (Dtu.mv (lk rfl)) rfl ?_
    refine Ops.s (Stp.callOwn [1] rfl rfl Try.call21 (lks rfl) (fun E' le hat => as17_ok E' _ _ (by first | assumption | omega) (by first | assumption | omega)) ?_) rfl
    rintro _ _ ⟨aa40, ac40, rfl, rfl⟩
    refine Ops.s (Stp.alloc ty29 (fun b12 => ?_)) rfl
    refine Ops.e (Stp.store 0 Try.sizeOf29 (lk rfl) (lk rfl) rfl rfl rfl rfl rfl rfl rfl ?_)
    refine Ops.nil ?_
    refine Then.next ?_
    refine Body.seq ?_
    refine Body.seq ?_
    refine Body.region ?_
    refine Ops.u (Dtu.asg (lk rfl)) rfl ?_
    refine Ops.nil ?_
    refine Then.next ?_
    refine Body.block ?_
    refine Body.loopH (γ := GLv) rfl (fun s => [(13, .int .i64 s.i)]) (fun s => [(0, own b12 [.int .i64 s.g.r, .int .i64 s.g.c, .slice s.a (s.g.r * s.g.c) s.c] 29), (1, gridP cb24 s.g), (2, osl 49 11 (.slice s.a (s.g.r * s.g.c) s.c) (s.g.r * s.g.c) (s.g.flat.flatMap Cell.renc))]) (fun s => s.i ≤ ops2.length ∧ s.g.Ok ∧ s.g.In) (fun s => ops2.length - s.i) (⟨0, mg17, aa40, ac40⟩) (⟨Nat.zero_le _, mok17, min17⟩) ⟨rfl, trivial⟩ rfl ?_
    rintro ⟨i, g, a, c⟩ u ⟨hi, ok, hgi⟩
    dsimp only at hi ok hgi ⊢
    by_cases hlt : i < ops2.length ∧ i < 20
    · have hlt1 := hlt.1
      have ho : ops2[i]! ∈ ops2 := by rw [getElem!_pos ops2 i hlt.1]; exact List.getElem_mem _
      have hoi := hin2 _ ho
      have ho1 := hoi.1
      have ho2 := hoi.2.1
      refine Body.seq ?_
      refine Body.seq ?_
      refine Body.region ?_
      refine Ops.u (Dtu.mv (lk rfl)) rfl ?_
      refine Ops.u (Dtu.mv (lk rfl)) rfl ?_
      refine Ops.u (Dtu.lenS Try.underlying22 (Sl.up hv2) (lk rfl)) rfl ?_
      refine Ops.u (Dtu.lss (lk rfl) (lk rfl)) rfl ?_
      refine Ops.u (Dtu.mv (lk rfl)) rfl ?_
      refine Ops.decP 45 rfl (fun _ => ?_) (fun hn => absurd (by first | omega | assumption | decide) hn)
      refine Ops.gu rfl rfl rfl (Dtu.mv (lk rfl)) rfl ?_
      refine Ops.gu rfl rfl rfl (Dtu.lss (lk rfl) (lk rfl)) rfl ?_
      refine Ops.u (Dtu.pickT (lk rfl) (lk rfl)) rfl ?_
      refine Ops.nil ?_
      refine Then.next ?_
      refine Body.condP (lk rfl) (fun _ => ?_) (fun hn => absurd (by first | omega | assumption | decide) hn)
      refine Body.skip ?_
      refine Then.next ?_
      refine Body.seq ?_
      refine Body.block ?_
      refine Body.draw mixed ?_
      refine AB.u 0 rfl (by decide +kernel) (Dtu.mv (lk rfl)) rfl ?_
      refine AB.d 1 rfl (by decide +kernel) rfl (Det.lda Try.isAgg29 Try.sizeOf29 (lk rfl) (Rds.ow (m := 3) 0 rfl rfl) rfl) rfl ?_
      refine AB.u 2 rfl (by decide +kernel) (Dtu.mv (lk rfl)) rfl ?_
      refine AB.u 3 rfl (by decide +kernel) (Dtu.mv (lk rfl)) rfl ?_
      refine AB.u 4 rfl (by decide +kernel) (Dtu.ix (i := (i)) Try.underlying22 Try.sizeOf41 (Sl.up hv2) (lk rfl) (lk rfl) (by omega) (by omega)) rfl ?_
      refine AB.d 5 rfl (by decide +kernel) rfl (Det.lda Try.isAgg41 Try.sizeOf41 (lk rfl) (Rds.sl (Sl.up hv2) (gf (sz := 8) (fun _ => rfl) (by omega))) rfl) rfl ?_
      refine AB.s 6 rfl (by decide +kernel) (by decide +kernel) (Stp.callOwn [1, 1] rfl rfl Try.call15 (lks rfl) (fun E' le hat => do17_ok E' _ _ _ _ _ _ _ _ _ _ _ _ (by first | assumption | omega) (by first | assumption | omega) (by first | assumption | omega)) ?_) rfl
      rintro _ _ ⟨da58, dm58, dg58, hdg58, rfl, rfl⟩
      refine AB.u 7 rfl (by decide +kernel) (Dtu.mv (lk rfl)) rfl ?_
      refine AB.u 8 rfl (by decide +kernel) (Dtu.ext (lk rfl) rfl) rfl ?_
      refine AB.u 9 rfl (by decide +kernel) (Dtu.ext (lk rfl) rfl) rfl ?_
      refine AB.e 10 rfl (by decide +kernel) (by decide +kernel) (Stp.store 2 Try.sizeOf29 (lk rfl) (lk rfl) rfl rfl rfl rfl rfl rfl rfl ?_)
      refine AB.done (by decide +kernel) ?_
      refine Blk.norm ?_
      refine Then.next ?_
      refine Body.region ?_
      refine Ops.u (Dtu.mv (lk rfl)) rfl ?_
      refine Ops.u (Dtu.add (lk rfl) (lk rfl) (w64 (by omega) (by omega))) rfl ?_
      refine Ops.u (Dtu.asg (lk rfl)) rfl ?_
      refine Ops.nil ?_
      have ok2 : dg58.Ok := by rw [hdg58]; exact Gd.op_ok ok ops2[i]!
      have hgi2 : dg58.In := by rw [hdg58]; exact Gd.op_in hgi ops2[i]! hoi
      refine Round.goK [2, 0, 0, 0, 0, 0] ⟨i + 1, dg58, da58, dm58⟩ rfl rfl rfl ⟨rfl, trivial⟩ rfl rfl ⟨hlt1, ok2, hgi2⟩ (by dsimp only; omega)
    · have f1 : rSame mg17 mg17 = true := rSame_all rfl rfl fun j _ => rEq_self _
      have f2 := same_rSame ok mok17 hgi min17
      refine Body.seq ?_
      refine Body.seq ?_
      refine Body.region ?_
      refine Ops.u (Dtu.mv (lk rfl)) rfl ?_
      refine Ops.u (Dtu.mv (lk rfl)) rfl ?_
      refine Ops.u (Dtu.lenS Try.underlying22 (Sl.up hv2) (lk rfl)) rfl ?_
      refine Ops.u (Dtu.lss (lk rfl) (lk rfl)) rfl ?_
      refine Ops.u (Dtu.mv (lk rfl)) rfl ?_
      refine Ops.decP 45 rfl (fun c45 => ?_) (fun c45 => ?_)
      · refine Ops.gu rfl rfl rfl (Dtu.mv (lk rfl)) rfl ?_
        refine Ops.gu rfl rfl rfl (Dtu.lss (lk rfl) (lk rfl)) rfl ?_
        refine Ops.u (Dtu.pickT (lk rfl) (lk rfl)) rfl ?_
        refine Ops.nil ?_
        refine Then.next ?_
        refine Body.condP (lk rfl) (fun hy => absurd hy (by first | omega | assumption | decide)) (fun _ => ?_)
        refine Body.exit ?_
        refine Then.exit ?_
        refine Round.exit ?_
        refine Blk.here ?_
        refine Then.next ?_
        refine Body.seq ?_
        refine Body.drawE [4] mixed rfl ?_
        rintro E13' le13 ⟨hA13_0, -⟩
        have hv_13 := Sl.mono hv le13
        have hv2_13 := Sl.mono hv2 le13
        refine AE.more [0] (by decide +kernel) rfl ⟨?_, trivial⟩
        refine AEI.s rfl (Stp.call rfl Try.call14 (lks rfl) (fun E' le hat => alive17_ok E') ?_) rfl
        rintro _ _ ⟨rfl, rfl⟩
        refine AE.u 1 rfl (by decide +kernel) (Dtu.mv (lk rfl)) rfl ?_
        refine AE.gu 2 rfl (by decide +kernel) rfl rfl rfl (Dtu.mv (lk rfl)) rfl ?_
        refine AE.gd 4 rfl (by decide +kernel) rfl rfl rfl (Det.lda Try.isAgg29 Try.sizeOf29 (lk rfl) (Rds.at (m := 3) hA13_0 rfl) rfl) rfl ?_
        refine AE.more [3] (by decide +kernel) rfl ⟨?_, trivial⟩
        refine AEI.gs rfl rfl rfl rfl (Stp.callOwn [3] rfl rfl Try.call21 (lks rfl) (fun E' le hat => as17_ok E' _ _ (by first | assumption | omega) (by first | assumption | omega)) ?_) rfl
        rintro _ _ ⟨aa64, ac64, rfl, rfl⟩
        refine AE.more [5] (by decide +kernel) rfl ⟨?_, trivial⟩
        refine AEI.gs rfl rfl rfl rfl (Stp.call rfl Try.call20 (lks rfl) (fun E' le hat => rsame_ok E' _ _ _ _ (by first | assumption | omega) (by first | assumption | omega) (by first | exact Sl.mono (by assumption) le | exact Sl.hatI hat 0 rfl | exact Sl.hatI hat 1 rfl | exact Sl.hatI hat 2 rfl | exact Sl.hatI hat 3 rfl | exact Sl.hatI hat 4 rfl | exact Sl.hatI hat 5 rfl | exact Sl.hatI hat 6 rfl | exact Sl.hatI hat 7 rfl | exact Sl.hatI hat 8 rfl | exact Sl.hatI hat 9 rfl | exact Sl.hatI hat 10 rfl | exact Sl.hatI hat 11 rfl | exact Sl.hatI hat 12 rfl | exact Sl.hatI hat 13 rfl | exact Sl.hatI hat 14 rfl | exact Sl.hatI hat 15 rfl) (by first | exact Sl.mono (by assumption) le | exact Sl.hatI hat 0 rfl | exact Sl.hatI hat 1 rfl | exact Sl.hatI hat 2 rfl | exact Sl.hatI hat 3 rfl | exact Sl.hatI hat 4 rfl | exact Sl.hatI hat 5 rfl | exact Sl.hatI hat 6 rfl | exact Sl.hatI hat 7 rfl | exact Sl.hatI hat 8 rfl | exact Sl.hatI hat 9 rfl | exact Sl.hatI hat 10 rfl | exact Sl.hatI hat 11 rfl | exact Sl.hatI hat 12 rfl | exact Sl.hatI hat 13 rfl | exact Sl.hatI hat 14 rfl | exact Sl.hatI hat 15 rfl)) ?_) rfl
        rintro _ _ ⟨rfl, rfl⟩
        refine AE.u 6 rfl (by decide +kernel) (Dtu.pickT (lk rfl) (lk rfl)) rfl ?_
        refine AE.u 7 rfl (by decide +kernel) (Dtu.mv (lk rfl)) rfl ?_
        refine AE.dec 68 rfl (fun _ => ?_) (fun hn => absurd hn (by first | (rw [f1]; decide) | simp [f1]))
        refine AE.gu 8 rfl (by decide +kernel) rfl rfl rfl (Dtu.mv (lk rfl)) rfl ?_
        refine AE.gu 9 rfl (by decide +kernel) rfl rfl rfl (Dtu.mv (lk rfl)) rfl ?_
        refine AE.gu 11 rfl (by decide +kernel) rfl rfl rfl (Dtu.mv (lk rfl)) rfl ?_
        refine AE.gd 13 rfl (by decide +kernel) rfl rfl rfl (Det.lda Try.isAgg29 Try.sizeOf29 (lk rfl) (Rds.at (m := 3) hA13_0 rfl) rfl) rfl ?_
        refine AE.more [10] (by decide +kernel) rfl ⟨?_, trivial⟩
        refine AEI.gs rfl rfl rfl rfl (Stp.callOwn [3, 0] rfl rfl Try.call35 (lks rfl) (fun E' le hat => same_g E' _ _ _ _) ?_) rfl
        rintro _ _ ⟨rfl, rfl⟩
        refine AE.more [12] (by decide +kernel) rfl ⟨?_, trivial⟩
        refine AEI.gs rfl rfl rfl rfl (Stp.callOwn [0] rfl rfl Try.call21 (lks rfl) (fun E' le hat => as17_ok E' _ _ (by first | assumption | omega) (by first | assumption | omega)) ?_) rfl
        rintro _ _ ⟨aa73, ac73, rfl, rfl⟩
        refine AE.more [14] (by decide +kernel) rfl ⟨?_, trivial⟩
        refine AEI.gs rfl rfl rfl rfl (Stp.call rfl Try.call20 (lks rfl) (fun E' le hat => rsame_ok E' _ _ _ _ (by first | assumption | omega) (by first | assumption | omega) (by first | exact Sl.mono (by assumption) le | exact Sl.hatI hat 0 rfl | exact Sl.hatI hat 1 rfl | exact Sl.hatI hat 2 rfl | exact Sl.hatI hat 3 rfl | exact Sl.hatI hat 4 rfl | exact Sl.hatI hat 5 rfl | exact Sl.hatI hat 6 rfl | exact Sl.hatI hat 7 rfl | exact Sl.hatI hat 8 rfl | exact Sl.hatI hat 9 rfl | exact Sl.hatI hat 10 rfl | exact Sl.hatI hat 11 rfl | exact Sl.hatI hat 12 rfl | exact Sl.hatI hat 13 rfl | exact Sl.hatI hat 14 rfl | exact Sl.hatI hat 15 rfl) (by first | exact Sl.mono (by assumption) le | exact Sl.hatI hat 0 rfl | exact Sl.hatI hat 1 rfl | exact Sl.hatI hat 2 rfl | exact Sl.hatI hat 3 rfl | exact Sl.hatI hat 4 rfl | exact Sl.hatI hat 5 rfl | exact Sl.hatI hat 6 rfl | exact Sl.hatI hat 7 rfl | exact Sl.hatI hat 8 rfl | exact Sl.hatI hat 9 rfl | exact Sl.hatI hat 10 rfl | exact Sl.hatI hat 11 rfl | exact Sl.hatI hat 12 rfl | exact Sl.hatI hat 13 rfl | exact Sl.hatI hat 14 rfl | exact Sl.hatI hat 15 rfl)) ?_) rfl
        rintro _ _ ⟨rfl, rfl⟩
        refine AE.gu 15 rfl (by decide +kernel) rfl rfl rfl (Dtu.eqB Try.underlying4 (lk rfl) (lk rfl)) rfl ?_
        refine AE.u 16 rfl (by decide +kernel) (Dtu.pickT (lk rfl) (lk rfl)) rfl ?_
        refine AE.u 17 rfl (by decide +kernel) (Dtu.asg (lk rfl)) rfl ?_
        refine AE.done (by decide +kernel) ?_
        refine Then.next ?_
        refine Body.ret ?_
        exact ⟨.inr rfl, _, pk [] rfl, bool_eq (by simp [f2]), rfl⟩
      · refine Ops.gn rfl rfl rfl rfl rfl ?_
        refine Ops.gn rfl rfl rfl rfl rfl ?_
        refine Ops.u (Dtu.pickF (lk rfl) (lk rfl)) rfl ?_
        refine Ops.nil ?_
        refine Then.next ?_
        refine Body.condF (lk rfl) ?_
        refine Body.exit ?_
        refine Then.exit ?_
        refine Round.exit ?_
        refine Blk.here ?_
        refine Then.next ?_
        refine Body.seq ?_
        refine Body.drawE [4] mixed rfl ?_
        rintro E13' le13 ⟨hA13_0, -⟩
        have hv_13 := Sl.mono hv le13
        have hv2_13 := Sl.mono hv2 le13
        refine AE.more [0] (by decide +kernel) rfl ⟨?_, trivial⟩
        refine AEI.s rfl (Stp.call rfl Try.call14 (lks rfl) (fun E' le hat => alive17_ok E') ?_) rfl
        rintro _ _ ⟨rfl, rfl⟩
        refine AE.u 1 rfl (by decide +kernel) (Dtu.mv (lk rfl)) rfl ?_
        refine AE.gu 2 rfl (by decide +kernel) rfl rfl rfl (Dtu.mv (lk rfl)) rfl ?_
        refine AE.gd 4 rfl (by decide +kernel) rfl rfl rfl (Det.lda Try.isAgg29 Try.sizeOf29 (lk rfl) (Rds.at (m := 3) hA13_0 rfl) rfl) rfl ?_
        refine AE.more [3] (by decide +kernel) rfl ⟨?_, trivial⟩
        refine AEI.gs rfl rfl rfl rfl (Stp.callOwn [3] rfl rfl Try.call21 (lks rfl) (fun E' le hat => as17_ok E' _ _ (by first | assumption | omega) (by first | assumption | omega)) ?_) rfl
        rintro _ _ ⟨aa64, ac64, rfl, rfl⟩
        refine AE.more [5] (by decide +kernel) rfl ⟨?_, trivial⟩
        refine AEI.gs rfl rfl rfl rfl (Stp.call rfl Try.call20 (lks rfl) (fun E' le hat => rsame_ok E' _ _ _ _ (by first | assumption | omega) (by first | assumption | omega) (by first | exact Sl.mono (by assumption) le | exact Sl.hatI hat 0 rfl | exact Sl.hatI hat 1 rfl | exact Sl.hatI hat 2 rfl | exact Sl.hatI hat 3 rfl | exact Sl.hatI hat 4 rfl | exact Sl.hatI hat 5 rfl | exact Sl.hatI hat 6 rfl | exact Sl.hatI hat 7 rfl | exact Sl.hatI hat 8 rfl | exact Sl.hatI hat 9 rfl | exact Sl.hatI hat 10 rfl | exact Sl.hatI hat 11 rfl | exact Sl.hatI hat 12 rfl | exact Sl.hatI hat 13 rfl | exact Sl.hatI hat 14 rfl | exact Sl.hatI hat 15 rfl) (by first | exact Sl.mono (by assumption) le | exact Sl.hatI hat 0 rfl | exact Sl.hatI hat 1 rfl | exact Sl.hatI hat 2 rfl | exact Sl.hatI hat 3 rfl | exact Sl.hatI hat 4 rfl | exact Sl.hatI hat 5 rfl | exact Sl.hatI hat 6 rfl | exact Sl.hatI hat 7 rfl | exact Sl.hatI hat 8 rfl | exact Sl.hatI hat 9 rfl | exact Sl.hatI hat 10 rfl | exact Sl.hatI hat 11 rfl | exact Sl.hatI hat 12 rfl | exact Sl.hatI hat 13 rfl | exact Sl.hatI hat 14 rfl | exact Sl.hatI hat 15 rfl)) ?_) rfl
        rintro _ _ ⟨rfl, rfl⟩
        refine AE.u 6 rfl (by decide +kernel) (Dtu.pickT (lk rfl) (lk rfl)) rfl ?_
        refine AE.u 7 rfl (by decide +kernel) (Dtu.mv (lk rfl)) rfl ?_
        refine AE.dec 68 rfl (fun _ => ?_) (fun hn => absurd hn (by first | (rw [f1]; decide) | simp [f1]))
        refine AE.gu 8 rfl (by decide +kernel) rfl rfl rfl (Dtu.mv (lk rfl)) rfl ?_
        refine AE.gu 9 rfl (by decide +kernel) rfl rfl rfl (Dtu.mv (lk rfl)) rfl ?_
        refine AE.gu 11 rfl (by decide +kernel) rfl rfl rfl (Dtu.mv (lk rfl)) rfl ?_
        refine AE.gd 13 rfl (by decide +kernel) rfl rfl rfl (Det.lda Try.isAgg29 Try.sizeOf29 (lk rfl) (Rds.at (m := 3) hA13_0 rfl) rfl) rfl ?_
        refine AE.more [10] (by decide +kernel) rfl ⟨?_, trivial⟩
        refine AEI.gs rfl rfl rfl rfl (Stp.callOwn [3, 0] rfl rfl Try.call35 (lks rfl) (fun E' le hat => same_g E' _ _ _ _) ?_) rfl
        rintro _ _ ⟨rfl, rfl⟩
        refine AE.more [12] (by decide +kernel) rfl ⟨?_, trivial⟩
        refine AEI.gs rfl rfl rfl rfl (Stp.callOwn [0] rfl rfl Try.call21 (lks rfl) (fun E' le hat => as17_ok E' _ _ (by first | assumption | omega) (by first | assumption | omega)) ?_) rfl
        rintro _ _ ⟨aa73, ac73, rfl, rfl⟩
        refine AE.more [14] (by decide +kernel) rfl ⟨?_, trivial⟩
        refine AEI.gs rfl rfl rfl rfl (Stp.call rfl Try.call20 (lks rfl) (fun E' le hat => rsame_ok E' _ _ _ _ (by first | assumption | omega) (by first | assumption | omega) (by first | exact Sl.mono (by assumption) le | exact Sl.hatI hat 0 rfl | exact Sl.hatI hat 1 rfl | exact Sl.hatI hat 2 rfl | exact Sl.hatI hat 3 rfl | exact Sl.hatI hat 4 rfl | exact Sl.hatI hat 5 rfl | exact Sl.hatI hat 6 rfl | exact Sl.hatI hat 7 rfl | exact Sl.hatI hat 8 rfl | exact Sl.hatI hat 9 rfl | exact Sl.hatI hat 10 rfl | exact Sl.hatI hat 11 rfl | exact Sl.hatI hat 12 rfl | exact Sl.hatI hat 13 rfl | exact Sl.hatI hat 14 rfl | exact Sl.hatI hat 15 rfl) (by first | exact Sl.mono (by assumption) le | exact Sl.hatI hat 0 rfl | exact Sl.hatI hat 1 rfl | exact Sl.hatI hat 2 rfl | exact Sl.hatI hat 3 rfl | exact Sl.hatI hat 4 rfl | exact Sl.hatI hat 5 rfl | exact Sl.hatI hat 6 rfl | exact Sl.hatI hat 7 rfl | exact Sl.hatI hat 8 rfl | exact Sl.hatI hat 9 rfl | exact Sl.hatI hat 10 rfl | exact Sl.hatI hat 11 rfl | exact Sl.hatI hat 12 rfl | exact Sl.hatI hat 13 rfl | exact Sl.hatI hat 14 rfl | exact Sl.hatI hat 15 rfl)) ?_) rfl
        rintro _ _ ⟨rfl, rfl⟩
        refine AE.gu 15 rfl (by decide +kernel) rfl rfl rfl (Dtu.eqB Try.underlying4 (lk rfl) (lk rfl)) rfl ?_
        refine AE.u 16 rfl (by decide +kernel) (Dtu.pickT (lk rfl) (lk rfl)) rfl ?_
        refine AE.u 17 rfl (by decide +kernel) (Dtu.asg (lk rfl)) rfl ?_
        refine AE.done (by decide +kernel) ?_
        refine Then.next ?_
        refine Body.ret ?_
        exact ⟨.inr rfl, _, pk [] rfl, bool_eq (by simp [f2]), rfl⟩
end Go.Proofs.Ytpmapedhigjalaa
end
section
/- For GridCopies. -/
namespace Go.Proofs.Ytpmapedhigjalaa
end Go.Proofs.Ytpmapedhigjalaa
end
section
/- 'Rows.GridCopiesSaid': longlinelaw17.GridCopies returns true, whatever sizes and calls come in; they read as they did. -/
namespace Go.Proofs.Ytpmapedhigjalaa.gridCopies
open Go.Sx Go.ChangeShapes Go.WideShapes Go.ChangeAt Go.RowKit
set_option linter.unusedVariables false

theorem own : ownKnob Try.prog.godebug = none := by kernel_rfl
theorem laidOut : laidOutB Try.prog = true := by kernel_rfl
theorem pars : (Try.f6.params.toList.all fun t => Try.prog.readableRec t && decide (t < Try.prog.types.size)) = true := by kernel_rfl

set_option maxRecDepth 100000 in
theorem lifted (os : Os) (started : os.Started) (H : Type) (enc : TypeId × Value → H) :
    ReturnsInHanded {} Try.checked os 6 .any (Rows.gridCopiesSpec.pre6 enc Try.prog Try.f6 Rows.gridCopiesRow.domain false) (Rows.gridCopiesSpec.post enc Try.prog Try.f6 false true false false) := by
  refine returnsInHanded_of_change (C := Try.checked) own started (by kernel_rfl) Try.func6
    (ChangeSpec.witness6 (enc := enc) (C := Try.checked) false ⟨#[], #[.int .i64 0, .int .i64 0, .slice none 0 0, .slice none 0 0], []⟩ 8 (by kernel_rfl) (by kernel_rfl) (by kernel_rfl) (by kernel_rfl)) ?_
  intro W base args ds gs before hval0 hW hcnd _
  have hval : ∀ (j : Nat) t v, Try.f6.params[j]? = some t → args[j]? = some v → Value.okWide Try.prog W .any base t v := hval0
  have hW' := hW
  obtain ⟨p, q, hA0, hV, rfl, hfz, hnd⟩ := hW
  have hA : DataW.TrodAll enc Try.prog W 0 (fun _ => true) true Try.f6.params.toList args.toList ds p := hA0
  rw [Try.params6] at hA hval
  obtain ⟨v0, vs0, d0, ds0, p0, q0, hargs, rfl, rfl, h0, r0⟩ := trodAll_cons hA
  obtain ⟨v1, vs1, d1, ds1, p1, q1, rfl, rfl, rfl, h1, r1⟩ := trodAll_cons r0
  obtain ⟨v2, vs2, d2, ds2, p2, q2, rfl, rfl, rfl, h2, r2⟩ := trodAll_cons r1
  obtain ⟨v3, vs3, d3, ds3, p3, q3, rfl, rfl, rfl, h3, r3⟩ := trodAll_cons r2
  obtain ⟨rfl, rfl, rfl⟩ := trodAll_nil r3
  obtain rfl : args = #[v0, v1, v2, v3] := by cases args; simp_all
  obtain ⟨rows, rfl⟩ := okWide_int Try.underlying3 (hval 0 3 v0 rfl rfl)
  obtain ⟨cols, rfl⟩ := okWide_int Try.underlying3 (hval 1 3 v1 rfl rfl)
  obtain ⟨a, ln, cp, rfl⟩ := okWide_slice Try.underlying22 (hval 2 22 v2 rfl rfl)
  obtain ⟨m2, h2'⟩ := h2
  obtain ⟨s, l, es, hs, ho⟩ := trod_ops (cs := [.slice a ln cp]) h2'
  obtain rfl : Value.slice a ln cp = s := by simpa using es
  obtain ⟨a3, ln3, cp3, rfl⟩ := okWide_slice Try.underlying22 (hval 3 22 v3 rfl rfl)
  obtain ⟨m3, h3'⟩ := h3
  obtain ⟨s3, l3, es3, hs3, ho3⟩ := trod_ops (cs := [.slice a3 ln3 cp3]) h3'
  obtain rfl : Value.slice a3 ln3 cp3 = s3 := by simpa using es3
  refine (copies17_ok (envOf W) rows cols _ _ l l3 ho ho3 hs hs3 W St.all).mono ?_
  rintro e W' ⟨r, H', rfl, ⟨rfl, rfl⟩, s'⟩
  refine ⟨_, rfl, post_of_below (tb := 4) rfl rfl rfl Try.underlying4 laidOut (fun t ht => ?_) hW' (below_of_St s')⟩
  · have := List.all_eq_true.1 pars t ht
    rw [Bool.and_eq_true, decide_eq_true_eq] at this
    exact this

theorem over : Rows.gridCopiesRow.holds Try.pinned (OpenSpec.ofChange Rows.gridCopiesSpec) :=
  OpenClaim.holds_of_wide 6 Try.f6 rfl rfl rfl rfl rfl rfl rfl ⟨rfl, rfl, rfl, rfl, rfl⟩ rfl rfl rfl rfl rfl (by kernel_rfl) Try.func6 (by kernel_rfl)
    (of_decide_eq_true (by kernel_rfl)) (by unfold Func.isWrapper; first | (rw [if_pos (by decide +kernel)]; kernel_rfl) | (rw [if_neg (by decide +kernel)]; exact ⟨rfl, rfl⟩))
    (fun os started H enc _ => lifted os started H enc)

theorem proved : Rows.GridCopiesSaid := over
end Go.Proofs.Ytpmapedhigjalaa.gridCopies
end
