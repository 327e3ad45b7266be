/- QNm: GrrG, GrrH, OpenG, GrrI, GrrJ, OpenM, MovesP. -/
import Derived.Test.YtpmapedhigjalaaRma
import Derived.Test.YtpmapedhigjalaaRmb
import Derived.Test.YtpmapedhigjalaaRmc
import Derived.Test.YtpmapedhigjalaaRmd
import Derived.Test.YtpmapedhigjalaaRme
section
/- A grid and the document's: calls of both. -/
namespace Go.Proofs.Ytpmapedhigjalaa
set_option maxRecDepth 100000
set_option linter.unusedVariables false
set_option linter.unusedSimpArgs false
open Go.Sx

def Gd.op (g : Gd) (o : GOp) : Gd :=
  if o.k = 0 then g.put o.a o.b o.c else if o.k = 1 then g.fill o.a o.b o.n o.c else if o.k = 2 then g.up o.a o.b o.n o.c else if o.k = 3 then g.down o.a o.b o.n o.c
  else if o.k = 4 then g.ins o.a o.b o.n o.c else if o.k = 5 then g.del o.a o.b o.n o.c else if o.k = 6 then g.rsz o.a o.b o.c else g
theorem flat_congr {g h : Gd} (e1 : g.r = h.r) (e2 : g.c = h.c) (e : ∀ i k, i < g.r → k < g.c → g.f i k = h.f i k) : g.flat = h.flat := by
  refine flat_eq (by rw [flat_len', e1, e2]) fun j hj => ?_
  rw [← e1, ← e2] at hj
  rw [flat_at hj]
  rw [← e2]
  exact e _ _ (div_lt' hj) (Nat.mod_lt _ (Nat.pos_of_ne_zero fun h0 => by rw [h0, Nat.mul_zero] at hj; omega))
def by17 (n : Int) : Int := if 60 < n then 60 else if 0 < n then n else 0
theorem mv_up {g : Gd} (ok : g.Ok) {t u n : Int} {x : Cell} (h : g.rows t u n) : (g.mv t u (by17 n) x).flat = (g.up t u n x).flat := by
  have := ok.r
  rw [Gd.up, if_pos h]
  obtain ⟨h1, h2, h3, h4⟩ := h
  refine flat_congr rfl rfl fun i k hi hk => ?_
  show (if _ then _ else _) = (if _ then _ else _)
  have hi : i < g.r := hi
  by_cases hA : t ≤ (i : Int) ∧ (i : Int) ≤ u
  · rw [if_pos hA, if_pos hA]
    by_cases hB : (i : Int) + n ≤ u
    · have e : by17 n = n := by unfold by17; split <;> (try split) <;> omega
      rw [e, if_pos hB, if_pos (by omega)]
    · rw [if_neg hB, if_neg (by unfold by17; split <;> (try split) <;> omega)]
  · rw [if_neg hA, if_neg hA]
theorem mv_down {g : Gd} (ok : g.Ok) {t u n : Int} {x : Cell} (h : g.rows t u n) : (g.mv t u (0 - by17 n) x).flat = (g.down t u n x).flat := by
  have := ok.r
  rw [Gd.down, if_pos h]
  obtain ⟨h1, h2, h3, h4⟩ := h
  refine flat_congr rfl rfl fun i k hi hk => ?_
  show (if _ then _ else _) = (if _ then _ else _)
  have hi : i < g.r := hi
  by_cases hA : t ≤ (i : Int) ∧ (i : Int) ≤ u
  · rw [if_pos hA, if_pos hA]
    by_cases hB : t ≤ (i : Int) - n
    · have e : by17 n = n := by unfold by17; split <;> (try split) <;> omega
      rw [e, if_pos hB, if_pos (by omega), show (i : Int) + (0 - n) = i - n by omega]
    · rw [if_neg hB, if_neg (by unfold by17; split <;> (try split) <;> omega)]
  · rw [if_neg hA, if_neg hA]
theorem sh_ins {g : Gd} (ok : g.Ok) {t u n : Int} {x : Cell} (h : g.has t u ∧ 0 ≤ n) : (g.sh t u (0 - by17 n) x).flat = (g.ins t u n x).flat := by
  have := ok.c
  rw [Gd.ins, if_pos h]
  obtain ⟨⟨h1, h2, h3, h4⟩, h5⟩ := h
  refine flat_congr rfl rfl fun i k hi hk => ?_
  show (if _ then _ else _) = (if _ then _ else _)
  have hk : k < g.c := hk
  by_cases hA : (i : Int) = t ∧ u ≤ (k : Int)
  · rw [if_pos hA, if_pos hA]
    by_cases hB : u ≤ (k : Int) - n
    · have e : by17 n = n := by unfold by17; split <;> (try split) <;> omega
      rw [e, if_pos hB, if_pos (by omega), show (k : Int) + (0 - n) = k - n by omega]
    · rw [if_neg hB, if_neg (by unfold by17; split <;> (try split) <;> omega)]
  · rw [if_neg hA, if_neg hA]
theorem sh_del {g : Gd} (ok : g.Ok) {t u n : Int} {x : Cell} (h : g.has t u ∧ 0 ≤ n) : (g.sh t u (by17 n) x).flat = (g.del t u n x).flat := by
  have := ok.c
  rw [Gd.del, if_pos h]
  obtain ⟨⟨h1, h2, h3, h4⟩, h5⟩ := h
  refine flat_congr rfl rfl fun i k hi hk => ?_
  show (if _ then _ else _) = (if _ then _ else _)
  have hk : k < g.c := hk
  by_cases hA : (i : Int) = t ∧ u ≤ (k : Int)
  · rw [if_pos hA, if_pos hA]
    by_cases hB : (k : Int) + n < g.c
    · have e : by17 n = n := by unfold by17; split <;> (try split) <;> omega
      rw [e, if_pos hB, if_pos (by omega)]
    · rw [if_neg hB, if_neg (by unfold by17; split <;> (try split) <;> omega)]
  · rw [if_neg hA, if_neg hA]
theorem rhas_ok (E : Env) (g : Gd) (v : Value) (row col : Int) (hs : IsSl v) : Does Try.prog 17 #[.agg #[.int .i64 g.r, .int .i64 g.c, v], .int .i64 row, .int .i64 col] E ([]) fun r H' => r = .bool (decide (g.has row col)) ∧ H' = [] := by
  obtain ⟨va, vm, vc, rfl⟩ := hs
  by_cases h : g.has row col
  · rw [decide_eq_true h]
    unfold Gd.has at h
    refine Does.go _ _ Try.func17 rfl Try.ntmps17 rfl rfl ?_
    refine Body.seq ?_
    refine Body.region ?_
    refine Ops.s (Stp.box (lk rfl) rfl (fun b3 => ?_)) rfl
    refine Ops.u (Dtu.asg (lk rfl)) rfl ?_
    refine Ops.nil ?_
    refine Then.next ?_
    refine Body.seq ?_
    refine Body.region ?_
    refine Ops.u (Dtu.mv (lk rfl)) rfl ?_
    refine Ops.u (Dtu.geq (lk rfl) (lk rfl)) rfl ?_
    refine Ops.u (Dtu.mv (lk rfl)) rfl ?_
    refine Ops.decP 9 rfl (fun _ => ?_) (fun hn => absurd (by first | omega | assumption | decide) hn)
    refine Ops.gu rfl rfl rfl (Dtu.mv (lk rfl)) rfl ?_
    refine Ops.gu rfl rfl rfl (Dtu.fld fa29_0 (lk rfl)) rfl ?_
    refine Ops.gd rfl rfl rfl (Det.ld Try.isAgg3 (lk rfl) (Rd.ow 0 rfl rfl)) rfl ?_
    refine Ops.gu rfl rfl rfl (Dtu.lss (lk rfl) (lk rfl)) rfl ?_
    refine Ops.u (Dtu.pickT (lk rfl) (lk rfl)) rfl ?_
    refine Ops.u (Dtu.mv (lk rfl)) rfl ?_
    refine Ops.decP 15 rfl (fun _ => ?_) (fun hn => absurd (by first | omega | assumption | decide) hn)
    refine Ops.gu rfl rfl rfl (Dtu.mv (lk rfl)) rfl ?_
    refine Ops.gu rfl rfl rfl (Dtu.geq (lk rfl) (lk rfl)) rfl ?_
    refine Ops.u (Dtu.pickT (lk rfl) (lk rfl)) rfl ?_
    refine Ops.u (Dtu.mv (lk rfl)) rfl ?_
    refine Ops.decP 19 rfl (fun _ => ?_) (fun hn => absurd (by first | omega | assumption | decide) hn)
    refine Ops.gu rfl rfl rfl (Dtu.mv (lk rfl)) rfl ?_
    refine Ops.gu rfl rfl rfl (Dtu.fld fa29_1 (lk rfl)) rfl ?_
    refine Ops.gd rfl rfl rfl (Det.ld Try.isAgg3 (lk rfl) (Rd.ow 0 rfl rfl)) rfl ?_
    refine Ops.gu rfl rfl rfl (Dtu.lss (lk rfl) (lk rfl)) rfl ?_
    refine Ops.u (Dtu.pickT (lk rfl) (lk rfl)) rfl ?_
    refine Ops.u (Dtu.asg (lk rfl)) rfl ?_
    refine Ops.nil ?_
    refine Then.next ?_
    refine Body.ret ?_
    exact ⟨.inr rfl, _, pk [] rfl, bool_eq (by simp; omega), rfl⟩
  · rw [decide_eq_false h]
    unfold Gd.has at h
    refine Does.go _ _ Try.func17 rfl Try.ntmps17 rfl rfl ?_
    refine Body.seq ?_
    refine Body.region ?_
    refine Ops.s (Stp.box (lk rfl) rfl (fun b3 => ?_)) rfl
    refine Ops.u (Dtu.asg (lk rfl)) rfl ?_
    refine Ops.nil ?_
    refine Then.next ?_
    refine Body.seq ?_
    refine Body.region ?_
    refine Ops.u (Dtu.mv (lk rfl)) rfl ?_
    refine Ops.u (Dtu.geq (lk rfl) (lk rfl)) rfl ?_
    refine Ops.u (Dtu.mv (lk rfl)) rfl ?_
    refine Ops.decP 9 rfl (fun c9 => ?_) (fun c9 => ?_)
    · refine Ops.gu rfl rfl rfl (Dtu.mv (lk rfl)) rfl ?_
      refine Ops.gu rfl rfl rfl (Dtu.fld fa29_0 (lk rfl)) rfl ?_
      refine Ops.gd rfl rfl rfl (Det.ld Try.isAgg3 (lk rfl) (Rd.ow 0 rfl rfl)) rfl ?_
      refine Ops.gu rfl rfl rfl (Dtu.lss (lk rfl) (lk rfl)) rfl ?_
      refine Ops.u (Dtu.pickT (lk rfl) (lk rfl)) rfl ?_
      refine Ops.u (Dtu.mv (lk rfl)) rfl ?_
      refine Ops.decP 15 rfl (fun c15 => ?_) (fun c15 => ?_)
      · refine Ops.gu rfl rfl rfl (Dtu.mv (lk rfl)) rfl ?_
        refine Ops.gu rfl rfl rfl (Dtu.geq (lk rfl) (lk rfl)) rfl ?_
        refine Ops.u (Dtu.pickT (lk rfl) (lk rfl)) rfl ?_
        refine Ops.u (Dtu.mv (lk rfl)) rfl ?_
        refine Ops.decP 19 rfl (fun c19 => ?_) (fun c19 => ?_)
        · refine Ops.gu rfl rfl rfl (Dtu.mv (lk rfl)) rfl ?_
          refine Ops.gu rfl rfl rfl (Dtu.fld fa29_1 (lk rfl)) rfl ?_
          refine Ops.gd rfl rfl rfl (Det.ld Try.isAgg3 (lk rfl) (Rd.ow 0 rfl rfl)) rfl ?_
          refine Ops.gu rfl rfl rfl (Dtu.lss (lk rfl) (lk rfl)) rfl ?_
          refine Ops.u (Dtu.pickT (lk rfl) (lk rfl)) rfl ?_
          refine Ops.u (Dtu.asg (lk rfl)) rfl ?_
          refine Ops.nil ?_
          refine Then.next ?_
          refine Body.ret ?_
          exact ⟨.inr rfl, _, pk [] rfl, bool_eq (by simp; omega), rfl⟩
        · refine Ops.gn rfl rfl rfl rfl rfl ?_
          refine Ops.gn rfl rfl rfl rfl rfl ?_
          refine Ops.gn rfl rfl rfl rfl rfl ?_
          refine Ops.gn rfl rfl rfl rfl rfl ?_
          refine Ops.u (Dtu.pickF (lk rfl) (lk rfl)) rfl ?_
          refine Ops.u (Dtu.asg (lk rfl)) rfl ?_
          refine Ops.nil ?_
          refine Then.next ?_
          refine Body.ret ?_
          exact ⟨.inr rfl, _, pk [] rfl, rfl, rfl⟩
      · refine Ops.gn rfl rfl rfl rfl rfl ?_
        refine Ops.gn rfl rfl rfl rfl rfl ?_
        refine Ops.u (Dtu.pickF (lk rfl) (lk rfl)) rfl ?_
        refine Ops.u (Dtu.mv (lk rfl)) rfl ?_
        refine Ops.gn rfl rfl rfl rfl rfl ?_
        refine Ops.gn rfl rfl rfl rfl rfl ?_
        refine Ops.gn rfl rfl rfl rfl rfl ?_
        refine Ops.gn rfl rfl rfl rfl rfl ?_
        refine Ops.u (Dtu.pickF (lk rfl) (lk rfl)) rfl ?_
        refine Ops.u (Dtu.asg (lk rfl)) rfl ?_
        refine Ops.nil ?_
        refine Then.next ?_
        refine Body.ret ?_
        exact ⟨.inr rfl, _, pk [] rfl, rfl, rfl⟩
    · refine Ops.gn rfl rfl rfl rfl rfl ?_
      refine Ops.gn rfl rfl rfl rfl rfl ?_
      refine Ops.gn rfl rfl rfl rfl rfl ?_
      refine Ops.gn rfl rfl rfl rfl rfl ?_
      refine Ops.u (Dtu.pickF (lk rfl) (lk rfl)) rfl ?_
      refine Ops.u (Dtu.mv (lk rfl)) rfl ?_
      refine Ops.gn rfl rfl rfl rfl rfl ?_
      refine Ops.gn rfl rfl rfl rfl rfl ?_
      refine Ops.u (Dtu.pickF (lk rfl) (lk rfl)) rfl ?_
      refine Ops.u (Dtu.mv (lk rfl)) rfl ?_
      refine Ops.gn rfl rfl rfl rfl rfl ?_
      refine Ops.gn rfl rfl rfl rfl rfl ?_
      refine Ops.gn rfl rfl rfl rfl rfl ?_
      refine Ops.gn rfl rfl rfl rfl rfl ?_
      refine Ops.u (Dtu.pickF (lk rfl) (lk rfl)) rfl ?_
      refine Ops.u (Dtu.asg (lk rfl)) rfl ?_
      refine Ops.nil ?_
      refine Then.next ?_
      refine Body.ret ?_
      exact ⟨.inr rfl, _, pk [] rfl, rfl, rfl⟩
theorem do17_ok (E : Env) (b : Nat) (g : Gd) (a : Option Addr) (m : Nat) (k oa ob n pt fl fg bg : Int) (ok : g.Ok) (h0 : 0 ≤ fl) (h1 : fl < 256) : Does Try.prog 15 #[.pointer (some ⟨b, 0, none⟩), .agg #[.int .i64 g.r, .int .i64 g.c, .slice a (g.r * g.c) m], .agg #[.int .i64 k, .int .i64 oa, .int .i64 ob, .int .i64 n, .int .i32 pt, .int .u8 fl, .int .u32 fg, .int .u32 bg]] E ([gridP b g, osl 49 11 (.slice a (g.r * g.c) m) (g.r * g.c) (g.flat.flatMap Cell.renc)]) fun r H' => ∃ a' m' g', g' = g.op ⟨k, oa, ob, n, ⟨pt, fl, fg, bg⟩⟩ ∧ r = .tuple #[.agg #[.int .i64 g'.r, .int .i64 g'.c, .slice a' (g'.r * g'.c) m'], .bool true] ∧ H' = [gridP b g', osl 49 11 (.slice a' (g'.r * g'.c) m') (g'.r * g'.c) (g'.flat.flatMap Cell.renc)] := by
  have hb := ok.r
  have hc := ok.c
  refine Does.go _ _ Try.func15 rfl Try.ntmps15 rfl rfl ?_
  refine Body.seq ?_
  refine Body.region ?_
  refine Ops.s (Stp.box (lk rfl) rfl (fun b4 => ?_)) rfl
  refine Ops.s (Stp.box (lk rfl) rfl (fun b5 => ?_)) rfl
  refine Ops.s (Stp.alloc ty29 (fun b6 => ?_)) rfl
  refine Ops.u (Dtu.asg (lk rfl)) rfl ?_
  refine Ops.nil ?_
  refine Then.next ?_
  refine Body.seq ?_
  refine Body.region ?_
  refine Ops.u (Dtu.fld fa41_4 (lk rfl)) rfl ?_
  refine Ops.d (Det.lda Try.isAgg39 Try.sizeOf39 (lk rfl) (Rds.ow (m := 4) 1 rfl rfl) rfl) rfl ?_
  refine Ops.s (Stp.call rfl Try.call18 (lks rfl) (fun E' le hat => cell17_ok E' _ _ _ _ (by first | assumption | omega) (by first | assumption | omega)) ?_) rfl
  rintro _ _ ⟨rfl, rfl⟩
  refine Ops.s (Stp.alloc ty49 (fun b8 => ?_)) rfl
  refine Ops.e (Stp.store 0 Try.sizeOf49 (lk rfl) (lk rfl) rfl rfl rfl rfl rfl rfl rfl ?_)
  refine Ops.nil ?_
  refine Then.next ?_
  refine Body.seq ?_
  refine Body.region ?_
  refine Ops.u (Dtu.asg (lk rfl)) rfl ?_
  refine Ops.u (Dtu.asg (lk rfl)) rfl ?_
  refine Ops.nil ?_
  refine Then.next ?_
  refine Body.seqJH (γ := Unit) rfl (fun _g => [(11, .bool (!decide (g.rows oa ob n)))]) (fun _g => []) (fun _g => True) ?_ ?_
  · have hww : ∀ v : Bool, (v = true ↔ ¬ (0 ≤ oa ∧ oa ≤ ob ∧ ob < g.r ∧ 0 ≤ n)) → v = !decide (g.rows oa ob n) := fun v h => by
      change (v = true ↔ ¬ g.rows oa ob n) at h
      by_cases hr : g.rows oa ob n <;> cases v <;> simp_all
    refine Body.region ?_
    refine Ops.u (Dtu.fld fa41_1 (lk rfl)) rfl ?_
    refine Ops.d (Det.ld Try.isAgg3 (lk rfl) (Rd.ow 2 rfl rfl)) rfl ?_
    refine Ops.u (Dtu.lss (lk rfl) (lk rfl)) rfl ?_
    refine Ops.u (Dtu.mv (lk rfl)) rfl ?_
    refine Ops.decP 19 rfl (fun c19 => ?_) (fun c19 => ?_)
    · refine Ops.gn rfl rfl rfl rfl rfl ?_
      refine Ops.gn rfl rfl rfl rfl rfl ?_
      refine Ops.gn rfl rfl rfl rfl rfl ?_
      refine Ops.gn rfl rfl rfl rfl rfl ?_
      refine Ops.gn rfl rfl rfl rfl rfl ?_
      refine Ops.u (Dtu.pickT (lk rfl) (lk rfl)) rfl ?_
      refine Ops.u (Dtu.mv (lk rfl)) rfl ?_
      refine Ops.gn rfl rfl rfl rfl rfl ?_
      refine Ops.gn rfl rfl rfl rfl rfl ?_
      refine Ops.gn rfl rfl rfl rfl rfl ?_
      refine Ops.gn rfl rfl rfl rfl rfl ?_
      refine Ops.gn rfl rfl rfl rfl rfl ?_
      refine Ops.u (Dtu.pickT (lk rfl) (lk rfl)) rfl ?_
      refine Ops.u (Dtu.mv (lk rfl)) rfl ?_
      refine Ops.gn rfl rfl rfl rfl rfl ?_
      refine Ops.gn rfl rfl rfl rfl rfl ?_
      refine Ops.gn rfl rfl rfl rfl rfl ?_
      refine Ops.u (Dtu.pickT (lk rfl) (lk rfl)) rfl ?_
      refine Ops.u (Dtu.asg (lk rfl)) rfl ?_
      refine Ops.nil ?_
      refine Joint.goK [0, 0, 0, 0, 0, 0] () rfl rfl rfl ⟨(by first | exact congrArg (fun v => some (Value.bool v)) (hww true (by simp <;> omega)) | exact congrArg (fun v => some (Value.bool v)) (hww false (by simp <;> omega)) | exact congrArg (fun v => some (Value.bool v)) (hww (decide _) (by simp <;> omega))), trivial⟩ rfl rfl trivial
    · refine Ops.gu rfl rfl rfl (Dtu.fld fa41_1 (lk rfl)) rfl ?_
      refine Ops.gd rfl rfl rfl (Det.ld Try.isAgg3 (lk rfl) (Rd.ow 2 rfl rfl)) rfl ?_
      refine Ops.gu rfl rfl rfl (Dtu.fld fa41_2 (lk rfl)) rfl ?_
      refine Ops.gd rfl rfl rfl (Det.ld Try.isAgg3 (lk rfl) (Rd.ow 2 rfl rfl)) rfl ?_
      refine Ops.gu rfl rfl rfl (Dtu.gtr (lk rfl) (lk rfl)) rfl ?_
      refine Ops.u (Dtu.pickF (lk rfl) (lk rfl)) rfl ?_
      refine Ops.u (Dtu.mv (lk rfl)) rfl ?_
      refine Ops.decP 26 rfl (fun c26 => ?_) (fun c26 => ?_)
      · refine Ops.gn rfl rfl rfl rfl rfl ?_
        refine Ops.gn rfl rfl rfl rfl rfl ?_
        refine Ops.gn rfl rfl rfl rfl rfl ?_
        refine Ops.gn rfl rfl rfl rfl rfl ?_
        refine Ops.gn rfl rfl rfl rfl rfl ?_
        refine Ops.u (Dtu.pickT (lk rfl) (lk rfl)) rfl ?_
        refine Ops.u (Dtu.mv (lk rfl)) rfl ?_
        refine Ops.gn rfl rfl rfl rfl rfl ?_
        refine Ops.gn rfl rfl rfl rfl rfl ?_
        refine Ops.gn rfl rfl rfl rfl rfl ?_
        refine Ops.u (Dtu.pickT (lk rfl) (lk rfl)) rfl ?_
        refine Ops.u (Dtu.asg (lk rfl)) rfl ?_
        refine Ops.nil ?_
        refine Joint.goK [0, 0, 0, 0, 0, 0] () rfl rfl rfl ⟨(by first | exact congrArg (fun v => some (Value.bool v)) (hww true (by simp <;> omega)) | exact congrArg (fun v => some (Value.bool v)) (hww false (by simp <;> omega)) | exact congrArg (fun v => some (Value.bool v)) (hww (decide _) (by simp <;> omega))), trivial⟩ rfl rfl trivial
      · refine Ops.gu rfl rfl rfl (Dtu.fld fa41_2 (lk rfl)) rfl ?_
        refine Ops.gd rfl rfl rfl (Det.ld Try.isAgg3 (lk rfl) (Rd.ow 2 rfl rfl)) rfl ?_
        refine Ops.gu rfl rfl rfl (Dtu.fld fa29_0 (lk rfl)) rfl ?_
        refine Ops.gd rfl rfl rfl (Det.ld Try.isAgg3 (lk rfl) (Rd.ow 3 rfl rfl)) rfl ?_
        refine Ops.gu rfl rfl rfl (Dtu.geq (lk rfl) (lk rfl)) rfl ?_
        refine Ops.u (Dtu.pickF (lk rfl) (lk rfl)) rfl ?_
        refine Ops.u (Dtu.mv (lk rfl)) rfl ?_
        refine Ops.decP 33 rfl (fun c33 => ?_) (fun c33 => ?_)
        · refine Ops.gn rfl rfl rfl rfl rfl ?_
          refine Ops.gn rfl rfl rfl rfl rfl ?_
          refine Ops.gn rfl rfl rfl rfl rfl ?_
          refine Ops.u (Dtu.pickT (lk rfl) (lk rfl)) rfl ?_
          refine Ops.u (Dtu.asg (lk rfl)) rfl ?_
          refine Ops.nil ?_
          refine Joint.goK [0, 0, 0, 0, 0, 0] () rfl rfl rfl ⟨(by first | exact congrArg (fun v => some (Value.bool v)) (hww true (by simp <;> omega)) | exact congrArg (fun v => some (Value.bool v)) (hww false (by simp <;> omega)) | exact congrArg (fun v => some (Value.bool v)) (hww (decide _) (by simp <;> omega))), trivial⟩ rfl rfl trivial
        · refine Ops.gu rfl rfl rfl (Dtu.fld fa41_3 (lk rfl)) rfl ?_
          refine Ops.gd rfl rfl rfl (Det.ld Try.isAgg3 (lk rfl) (Rd.ow 2 rfl rfl)) rfl ?_
          refine Ops.gu rfl rfl rfl (Dtu.lss (lk rfl) (lk rfl)) rfl ?_
          refine Ops.u (Dtu.pickF (lk rfl) (lk rfl)) rfl ?_
          refine Ops.u (Dtu.asg (lk rfl)) rfl ?_
          refine Ops.nil ?_
          refine Joint.goK [0, 0, 0, 0, 0, 0] () rfl rfl rfl ⟨(by first | exact congrArg (fun v => some (Value.bool v)) (hww true (by simp <;> omega)) | exact congrArg (fun v => some (Value.bool v)) (hww false (by simp <;> omega)) | exact congrArg (fun v => some (Value.bool v)) (hww (decide _) (by simp <;> omega))), trivial⟩ rfl rfl trivial
  rintro ⟨⟩ u0 -
  refine Body.seq ?_
  refine Body.region ?_
  refine Ops.u (Dtu.asg (lk rfl)) rfl ?_
  refine Ops.nil ?_
  refine Then.next ?_
  refine Body.seqJH (γ := Unit) rfl (fun _g => [(12, .int .i64 (by17 n))]) (fun _g => []) (fun _g => True) ?_ ?_
  · refine Body.seq ?_
    refine Body.region ?_
    refine Ops.u (Dtu.fld fa41_3 (lk rfl)) rfl ?_
    refine Ops.d (Det.ld Try.isAgg3 (lk rfl) (Rd.ow 2 rfl rfl)) rfl ?_
    refine Ops.u (Dtu.gtr (lk rfl) (lk rfl)) rfl ?_
    refine Ops.nil ?_
    refine Then.next ?_
    refine Body.condP (lk rfl) (fun c40 => ?_) (fun c40 => ?_)
    · refine Body.region ?_
      refine Ops.u (Dtu.asg (lk rfl)) rfl ?_
      refine Ops.nil ?_
      refine Joint.goK [0, 0, 0, 0, 0, 0] () rfl rfl rfl ⟨int_eq (by unfold by17; (repeat' split) <;> omega), trivial⟩ rfl rfl trivial
    · refine Body.seq ?_
      refine Body.region ?_
      refine Ops.u (Dtu.fld fa41_3 (lk rfl)) rfl ?_
      refine Ops.d (Det.ld Try.isAgg3 (lk rfl) (Rd.ow 2 rfl rfl)) rfl ?_
      refine Ops.u (Dtu.gtr (lk rfl) (lk rfl)) rfl ?_
      refine Ops.nil ?_
      refine Then.next ?_
      refine Body.condP (lk rfl) (fun c43 => ?_) (fun c43 => ?_)
      · refine Body.region ?_
        refine Ops.u (Dtu.fld fa41_3 (lk rfl)) rfl ?_
        refine Ops.d (Det.ld Try.isAgg3 (lk rfl) (Rd.ow 2 rfl rfl)) rfl ?_
        refine Ops.u (Dtu.asg (lk rfl)) rfl ?_
        refine Ops.nil ?_
        refine Joint.goK [0, 0, 0, 0, 0, 0] () rfl rfl rfl ⟨int_eq (by unfold by17; (repeat' split) <;> omega), trivial⟩ rfl rfl trivial
      · refine Body.skip ?_
        refine Joint.goK [0, 0, 0, 0, 0, 0] () rfl rfl rfl ⟨int_eq (by unfold by17; (repeat' split) <;> omega), trivial⟩ rfl rfl trivial
  rintro ⟨⟩ u1 -
  have hby : -60 ≤ by17 n ∧ by17 n ≤ 60 := by unfold by17; (repeat' split) <;> omega
  by_cases k0 : k = 0
  · subst k0
    have hg : g.op ⟨0, oa, ob, n, ⟨pt, fl, fg, bg⟩⟩ = g.put oa ob ⟨pt, fl, fg, bg⟩ := rfl
    rw [hg]
    by_cases h : g.has oa ob
    · have e := erI_pos h
      have hr1 : (g.put oa ob ⟨pt, fl, fg, bg⟩).r = g.r := by rw [Gd.put, if_pos h]
      have hr2 : (g.put oa ob ⟨pt, fl, fg, bg⟩).c = g.c := by rw [Gd.put, if_pos h]
      refine Body.seq ?_
      refine Body.seq ?_
      refine Body.region ?_
      refine Ops.u (Dtu.fld fa41_0 (lk rfl)) rfl ?_
      refine Ops.d (Det.ld Try.isAgg3 (lk rfl) (Rd.ow 2 rfl rfl)) rfl ?_
      refine Ops.nil ?_
      refine Then.next ?_
      refine Body.block ?_
      refine Body.seq ?_
      refine Body.region ?_
      refine Ops.u (Dtu.eql (lk rfl) (lk rfl)) rfl ?_
      refine Ops.u (Dtu.asg (lk rfl)) rfl ?_
      refine Ops.nil ?_
      refine Then.next ?_
      refine Body.condP (lk rfl) (fun _ => ?_) (fun hn => absurd (by first | omega | assumption | decide) hn)
      refine Body.seq ?_
      refine Body.region ?_
      refine Ops.u (Dtu.mv (lk rfl)) rfl ?_
      refine Ops.u (Dtu.fld fa41_1 (lk rfl)) rfl ?_
      refine Ops.d (Det.ld Try.isAgg3 (lk rfl) (Rd.ow 2 rfl rfl)) rfl ?_
      refine Ops.u (Dtu.fld fa41_2 (lk rfl)) rfl ?_
      refine Ops.d (Det.ld Try.isAgg3 (lk rfl) (Rd.ow 2 rfl rfl)) rfl ?_
      refine Ops.u (Dtu.fld fa41_4 (lk rfl)) rfl ?_
      refine Ops.d (Det.lda Try.isAgg39 Try.sizeOf39 (lk rfl) (Rds.ow (m := 4) 2 rfl rfl) rfl) rfl ?_
      refine Ops.s (Stp.callOwn [4] rfl rfl Try.call29 (lks rfl) (fun E' le hat => put_g E' _ _ _ _ _ _ _ _) ?_) rfl
      rintro _ _ ⟨rfl, rfl⟩
      refine Ops.u (Dtu.asg (lk rfl)) rfl ?_
      refine Ops.nil ?_
      refine Then.next ?_
      refine Body.region ?_
      refine Ops.d (Det.lda Try.isAgg29 Try.sizeOf29 (lk rfl) (Rds.ow (m := 3) 4 rfl rfl) rfl) rfl ?_
      refine Ops.u (Dtu.fld fa41_1 (lk rfl)) rfl ?_
      refine Ops.d (Det.ld Try.isAgg3 (lk rfl) (Rd.ow 3 rfl rfl)) rfl ?_
      refine Ops.u (Dtu.fld fa41_2 (lk rfl)) rfl ?_
      refine Ops.d (Det.ld Try.isAgg3 (lk rfl) (Rd.ow 3 rfl rfl)) rfl ?_
      refine Ops.d (Det.lda Try.isAgg49 Try.sizeOf49 (lk rfl) (Rds.ow (m := 11) 1 rfl rfl) rfl) rfl ?_
      refine Ops.s (Stp.call rfl Try.call75 (lks rfl) (fun E' le hat => rput_ok E' _ _ _ _ _ _ _ _ (by first | assumption | omega) (by first | assumption | omega) (by first | exact Sl.mono (by assumption) le | exact Sl.at (hat _ (.head _)) | exact Sl.at (hat _ (.tail _ (.head _))) | exact Sl.at (hat _ (.tail _ (.tail _ (.head _)))) | exact Sl.at (hat _ (.tail _ (.tail _ (.tail _ (.head _))))) | exact Sl.at (hat _ (.tail _ (.tail _ (.tail _ (.tail _ (.head _)))))) | exact Sl.at (hat _ (.tail _ (.tail _ (.tail _ (.tail _ (.tail _ (.head _))))))))) ?_) rfl
      rintro _ _ ⟨ra65, rc65, rfl, rfl⟩
      refine Ops.u (Dtu.mv (lk rfl)) rfl ?_
      refine Ops.u (Dtu.ext (lk rfl) rfl) rfl ?_
      refine Ops.u (Dtu.ext (lk rfl) rfl) rfl ?_
      refine Ops.e (Stp.store 5 Try.sizeOf29 (lk rfl) (lk rfl) rfl rfl rfl rfl rfl rfl rfl ?_)
      refine Ops.u (Dtu.asg (lk rfl)) rfl ?_
      refine Ops.nil ?_
      refine Blk.norm ?_
      refine Then.next ?_
      refine Body.seq ?_
      refine Body.region ?_
      refine Ops.d (Det.lda Try.isAgg29 Try.sizeOf29 (lk rfl) (Rds.ow (m := 3) 5 rfl rfl) rfl) rfl ?_
      refine Ops.u (Dtu.mv (lk rfl)) rfl ?_
      refine Ops.u (Dtu.mv (lk rfl)) rfl ?_
      refine Ops.u (Dtu.eql (lk rfl) (lk rfl)) rfl ?_
      refine Ops.e (Stp.store 3 Try.sizeOf29 (lk rfl) (lk rfl) rfl rfl rfl rfl rfl rfl rfl ?_)
      refine Ops.u (Dtu.asg (lk rfl)) rfl ?_
      refine Ops.nil ?_
      refine Then.next ?_
      refine Body.ret ?_
      exact ⟨.inr rfl, _, Loads.agg Try.isAgg29 Try.sizeOf29 (Rds.ow (m := 3) 3 rfl rfl) rfl, _, pk [1, 0] rfl, ra65, rc65, _, rfl, by rw [hr1, hr2, e]; rfl, by rw [hr1, hr2]⟩
    · have e := erI_neg h
      have e2 : g.put oa ob ⟨pt, fl, fg, bg⟩ = g := if_neg h
      refine Body.seq ?_
      refine Body.seq ?_
      refine Body.region ?_
      refine Ops.u (Dtu.fld fa41_0 (lk rfl)) rfl ?_
      refine Ops.d (Det.ld Try.isAgg3 (lk rfl) (Rd.ow 2 rfl rfl)) rfl ?_
      refine Ops.nil ?_
      refine Then.next ?_
      refine Body.block ?_
      refine Body.seq ?_
      refine Body.region ?_
      refine Ops.u (Dtu.eql (lk rfl) (lk rfl)) rfl ?_
      refine Ops.u (Dtu.asg (lk rfl)) rfl ?_
      refine Ops.nil ?_
      refine Then.next ?_
      refine Body.condP (lk rfl) (fun _ => ?_) (fun hn => absurd (by first | omega | assumption | decide) hn)
      refine Body.seq ?_
      refine Body.region ?_
      refine Ops.u (Dtu.mv (lk rfl)) rfl ?_
      refine Ops.u (Dtu.fld fa41_1 (lk rfl)) rfl ?_
      refine Ops.d (Det.ld Try.isAgg3 (lk rfl) (Rd.ow 2 rfl rfl)) rfl ?_
      refine Ops.u (Dtu.fld fa41_2 (lk rfl)) rfl ?_
      refine Ops.d (Det.ld Try.isAgg3 (lk rfl) (Rd.ow 2 rfl rfl)) rfl ?_
      refine Ops.u (Dtu.fld fa41_4 (lk rfl)) rfl ?_
      refine Ops.d (Det.lda Try.isAgg39 Try.sizeOf39 (lk rfl) (Rds.ow (m := 4) 2 rfl rfl) rfl) rfl ?_
      refine Ops.s (Stp.callOwn [4] rfl rfl Try.call29 (lks rfl) (fun E' le hat => put_g E' _ _ _ _ _ _ _ _) ?_) rfl
      rintro _ _ ⟨rfl, rfl⟩
      refine Ops.u (Dtu.asg (lk rfl)) rfl ?_
      refine Ops.nil ?_
      refine Then.next ?_
      refine Body.region ?_
      refine Ops.d (Det.lda Try.isAgg29 Try.sizeOf29 (lk rfl) (Rds.ow (m := 3) 4 rfl rfl) rfl) rfl ?_
      refine Ops.u (Dtu.fld fa41_1 (lk rfl)) rfl ?_
      refine Ops.d (Det.ld Try.isAgg3 (lk rfl) (Rd.ow 3 rfl rfl)) rfl ?_
      refine Ops.u (Dtu.fld fa41_2 (lk rfl)) rfl ?_
      refine Ops.d (Det.ld Try.isAgg3 (lk rfl) (Rd.ow 3 rfl rfl)) rfl ?_
      refine Ops.d (Det.lda Try.isAgg49 Try.sizeOf49 (lk rfl) (Rds.ow (m := 11) 1 rfl rfl) rfl) rfl ?_
      refine Ops.s (Stp.call rfl Try.call75 (lks rfl) (fun E' le hat => rput_no E' _ _ _ _ _ (by first | assumption | omega) ⟨_, _, _, rfl⟩) ?_) rfl
      rintro _ _ ⟨rfl, rfl⟩
      refine Ops.u (Dtu.mv (lk rfl)) rfl ?_
      refine Ops.u (Dtu.ext (lk rfl) rfl) rfl ?_
      refine Ops.u (Dtu.ext (lk rfl) rfl) rfl ?_
      refine Ops.e (Stp.store 4 Try.sizeOf29 (lk rfl) (lk rfl) rfl rfl rfl rfl rfl rfl rfl ?_)
      refine Ops.u (Dtu.asg (lk rfl)) rfl ?_
      refine Ops.nil ?_
      refine Blk.norm ?_
      refine Then.next ?_
      refine Body.seq ?_
      refine Body.region ?_
      refine Ops.d (Det.lda Try.isAgg29 Try.sizeOf29 (lk rfl) (Rds.ow (m := 3) 4 rfl rfl) rfl) rfl ?_
      refine Ops.u (Dtu.mv (lk rfl)) rfl ?_
      refine Ops.u (Dtu.mv (lk rfl)) rfl ?_
      refine Ops.u (Dtu.eql (lk rfl) (lk rfl)) rfl ?_
      refine Ops.e (Stp.store 2 Try.sizeOf29 (lk rfl) (lk rfl) rfl rfl rfl rfl rfl rfl rfl ?_)
      refine Ops.u (Dtu.asg (lk rfl)) rfl ?_
      refine Ops.nil ?_
      refine Then.next ?_
      refine Body.ret ?_
      rw [e2]
      exact ⟨.inr rfl, _, Loads.agg Try.isAgg29 Try.sizeOf29 (Rds.ow (m := 3) 2 rfl rfl) rfl, _, pk [0, 4] rfl, a, m, g, rfl, by rw [e]; rfl, rfl⟩
  by_cases k1 : k = 1
  · subst k1
    have hg : g.op ⟨1, oa, ob, n, ⟨pt, fl, fg, bg⟩⟩ = g.fill oa ob n ⟨pt, fl, fg, bg⟩ := rfl
    rw [hg]
    by_cases h : g.has oa 0
    · have e := erI_pos h
      have hr1 : (g.fill oa ob n ⟨pt, fl, fg, bg⟩).r = g.r := by rw [Gd.fill, if_pos h]
      have hr2 : (g.fill oa ob n ⟨pt, fl, fg, bg⟩).c = g.c := by rw [Gd.fill, if_pos h]
      refine Body.seq ?_
      refine Body.seq ?_
      refine Body.region ?_
      refine Ops.u (Dtu.fld fa41_0 (lk rfl)) rfl ?_
      refine Ops.d (Det.ld Try.isAgg3 (lk rfl) (Rd.ow 2 rfl rfl)) rfl ?_
      refine Ops.nil ?_
      refine Then.next ?_
      refine Body.block ?_
      refine Body.seq ?_
      refine Body.region ?_
      refine Ops.u (Dtu.eql (lk rfl) (lk rfl)) rfl ?_
      refine Ops.u (Dtu.asg (lk rfl)) rfl ?_
      refine Ops.nil ?_
      refine Then.next ?_
      refine Body.condP (lk rfl) (fun hy => absurd hy (by first | omega | assumption | decide)) (fun _ => ?_)
      refine Body.seq ?_
      refine Body.region ?_
      refine Ops.u (Dtu.eql (lk rfl) (lk rfl)) rfl ?_
      refine Ops.u (Dtu.asg (lk rfl)) rfl ?_
      refine Ops.nil ?_
      refine Then.next ?_
      refine Body.condP (lk rfl) (fun _ => ?_) (fun hn => absurd (by first | omega | assumption | decide) hn)
      refine Body.seq ?_
      refine Body.region ?_
      refine Ops.u (Dtu.mv (lk rfl)) rfl ?_
      refine Ops.u (Dtu.fld fa41_1 (lk rfl)) rfl ?_
      refine Ops.d (Det.ld Try.isAgg3 (lk rfl) (Rd.ow 2 rfl rfl)) rfl ?_
      refine Ops.u (Dtu.fld fa41_2 (lk rfl)) rfl ?_
      refine Ops.d (Det.ld Try.isAgg3 (lk rfl) (Rd.ow 2 rfl rfl)) rfl ?_
      refine Ops.u (Dtu.fld fa41_3 (lk rfl)) rfl ?_
      refine Ops.d (Det.ld Try.isAgg3 (lk rfl) (Rd.ow 2 rfl rfl)) rfl ?_
      refine Ops.u (Dtu.fld fa41_4 (lk rfl)) rfl ?_
      refine Ops.d (Det.lda Try.isAgg39 Try.sizeOf39 (lk rfl) (Rds.ow (m := 4) 2 rfl rfl) rfl) rfl ?_
      refine Ops.s (Stp.callOwn [4] rfl rfl Try.call30 (lks rfl) (fun E' le hat => fill_g E' _ _ _ _ _ _ _ _ _) ?_) rfl
      rintro _ _ ⟨rfl, rfl⟩
      refine Ops.u (Dtu.asg (lk rfl)) rfl ?_
      refine Ops.nil ?_
      refine Then.next ?_
      refine Body.region ?_
      refine Ops.d (Det.lda Try.isAgg29 Try.sizeOf29 (lk rfl) (Rds.ow (m := 3) 4 rfl rfl) rfl) rfl ?_
      refine Ops.u (Dtu.fld fa41_1 (lk rfl)) rfl ?_
      refine Ops.d (Det.ld Try.isAgg3 (lk rfl) (Rd.ow 3 rfl rfl)) rfl ?_
      refine Ops.u (Dtu.fld fa41_2 (lk rfl)) rfl ?_
      refine Ops.d (Det.ld Try.isAgg3 (lk rfl) (Rd.ow 3 rfl rfl)) rfl ?_
      refine Ops.u (Dtu.fld fa41_3 (lk rfl)) rfl ?_
      refine Ops.d (Det.ld Try.isAgg3 (lk rfl) (Rd.ow 3 rfl rfl)) rfl ?_
      refine Ops.d (Det.lda Try.isAgg49 Try.sizeOf49 (lk rfl) (Rds.ow (m := 11) 1 rfl rfl) rfl) rfl ?_
      refine Ops.s (Stp.call rfl Try.call76 (lks rfl) (fun E' le hat => rfill_ok E' _ _ _ _ _ _ _ _ _ (by first | assumption | omega) (by first | assumption | omega) (by first | exact Sl.mono (by assumption) le | exact Sl.at (hat _ (.head _)) | exact Sl.at (hat _ (.tail _ (.head _))) | exact Sl.at (hat _ (.tail _ (.tail _ (.head _)))) | exact Sl.at (hat _ (.tail _ (.tail _ (.tail _ (.head _))))) | exact Sl.at (hat _ (.tail _ (.tail _ (.tail _ (.tail _ (.head _)))))) | exact Sl.at (hat _ (.tail _ (.tail _ (.tail _ (.tail _ (.tail _ (.head _))))))))) ?_) rfl
      rintro _ _ ⟨ra89, rc89, rfl, rfl⟩
      refine Ops.u (Dtu.mv (lk rfl)) rfl ?_
      refine Ops.u (Dtu.ext (lk rfl) rfl) rfl ?_
      refine Ops.u (Dtu.ext (lk rfl) rfl) rfl ?_
      refine Ops.e (Stp.store 5 Try.sizeOf29 (lk rfl) (lk rfl) rfl rfl rfl rfl rfl rfl rfl ?_)
      refine Ops.u (Dtu.asg (lk rfl)) rfl ?_
      refine Ops.nil ?_
      refine Blk.norm ?_
      refine Then.next ?_
      refine Body.seq ?_
      refine Body.region ?_
      refine Ops.d (Det.lda Try.isAgg29 Try.sizeOf29 (lk rfl) (Rds.ow (m := 3) 5 rfl rfl) rfl) rfl ?_
      refine Ops.u (Dtu.mv (lk rfl)) rfl ?_
      refine Ops.u (Dtu.mv (lk rfl)) rfl ?_
      refine Ops.u (Dtu.eql (lk rfl) (lk rfl)) rfl ?_
      refine Ops.e (Stp.store 3 Try.sizeOf29 (lk rfl) (lk rfl) rfl rfl rfl rfl rfl rfl rfl ?_)
      refine Ops.u (Dtu.asg (lk rfl)) rfl ?_
      refine Ops.nil ?_
      refine Then.next ?_
      refine Body.ret ?_
      exact ⟨.inr rfl, _, Loads.agg Try.isAgg29 Try.sizeOf29 (Rds.ow (m := 3) 3 rfl rfl) rfl, _, pk [1, 0] rfl, ra89, rc89, _, rfl, by rw [hr1, hr2, e]; rfl, by rw [hr1, hr2]⟩
    · have e := erI_neg h
      have e2 : g.fill oa ob n ⟨pt, fl, fg, bg⟩ = g := if_neg h
      refine Body.seq ?_
      refine Body.seq ?_
      refine Body.region ?_
      refine Ops.u (Dtu.fld fa41_0 (lk rfl)) rfl ?_
      refine Ops.d (Det.ld Try.isAgg3 (lk rfl) (Rd.ow 2 rfl rfl)) rfl ?_
      refine Ops.nil ?_
      refine Then.next ?_
      refine Body.block ?_
      refine Body.seq ?_
      refine Body.region ?_
      refine Ops.u (Dtu.eql (lk rfl) (lk rfl)) rfl ?_
      refine Ops.u (Dtu.asg (lk rfl)) rfl ?_
      refine Ops.nil ?_
      refine Then.next ?_
      refine Body.condP (lk rfl) (fun hy => absurd hy (by first | omega | assumption | decide)) (fun _ => ?_)
      refine Body.seq ?_
      refine Body.region ?_
      refine Ops.u (Dtu.eql (lk rfl) (lk rfl)) rfl ?_
      refine Ops.u (Dtu.asg (lk rfl)) rfl ?_
      refine Ops.nil ?_
      refine Then.next ?_
      refine Body.condP (lk rfl) (fun _ => ?_) (fun hn => absurd (by first | omega | assumption | decide) hn)
      refine Body.seq ?_
      refine Body.region ?_
      refine Ops.u (Dtu.mv (lk rfl)) rfl ?_
      refine Ops.u (Dtu.fld fa41_1 (lk rfl)) rfl ?_
      refine Ops.d (Det.ld Try.isAgg3 (lk rfl) (Rd.ow 2 rfl rfl)) rfl ?_
      refine Ops.u (Dtu.fld fa41_2 (lk rfl)) rfl ?_
      refine Ops.d (Det.ld Try.isAgg3 (lk rfl) (Rd.ow 2 rfl rfl)) rfl ?_
      refine Ops.u (Dtu.fld fa41_3 (lk rfl)) rfl ?_
      refine Ops.d (Det.ld Try.isAgg3 (lk rfl) (Rd.ow 2 rfl rfl)) rfl ?_
      refine Ops.u (Dtu.fld fa41_4 (lk rfl)) rfl ?_
      refine Ops.d (Det.lda Try.isAgg39 Try.sizeOf39 (lk rfl) (Rds.ow (m := 4) 2 rfl rfl) rfl) rfl ?_
      refine Ops.s (Stp.callOwn [4] rfl rfl Try.call30 (lks rfl) (fun E' le hat => fill_g E' _ _ _ _ _ _ _ _ _) ?_) rfl
      rintro _ _ ⟨rfl, rfl⟩
      refine Ops.u (Dtu.asg (lk rfl)) rfl ?_
      refine Ops.nil ?_
      refine Then.next ?_
      refine Body.region ?_
      refine Ops.d (Det.lda Try.isAgg29 Try.sizeOf29 (lk rfl) (Rds.ow (m := 3) 4 rfl rfl) rfl) rfl ?_
      refine Ops.u (Dtu.fld fa41_1 (lk rfl)) rfl ?_
      refine Ops.d (Det.ld Try.isAgg3 (lk rfl) (Rd.ow 3 rfl rfl)) rfl ?_
      refine Ops.u (Dtu.fld fa41_2 (lk rfl)) rfl ?_
      refine Ops.d (Det.ld Try.isAgg3 (lk rfl) (Rd.ow 3 rfl rfl)) rfl ?_
      refine Ops.u (Dtu.fld fa41_3 (lk rfl)) rfl ?_
      refine Ops.d (Det.ld Try.isAgg3 (lk rfl) (Rd.ow 3 rfl rfl)) rfl ?_
      refine Ops.d (Det.lda Try.isAgg49 Try.sizeOf49 (lk rfl) (Rds.ow (m := 11) 1 rfl rfl) rfl) rfl ?_
      refine Ops.s (Stp.call rfl Try.call76 (lks rfl) (fun E' le hat => rfill_no E' _ _ _ _ _ _ (by first | assumption | omega) ⟨_, _, _, rfl⟩) ?_) rfl
      rintro _ _ ⟨rfl, rfl⟩
      refine Ops.u (Dtu.mv (lk rfl)) rfl ?_
      refine Ops.u (Dtu.ext (lk rfl) rfl) rfl ?_
      refine Ops.u (Dtu.ext (lk rfl) rfl) rfl ?_
      refine Ops.e (Stp.store 4 Try.sizeOf29 (lk rfl) (lk rfl) rfl rfl rfl rfl rfl rfl rfl ?_)
      refine Ops.u (Dtu.asg (lk rfl)) rfl ?_
      refine Ops.nil ?_
      refine Blk.norm ?_
      refine Then.next ?_
      refine Body.seq ?_
      refine Body.region ?_
      refine Ops.d (Det.lda Try.isAgg29 Try.sizeOf29 (lk rfl) (Rds.ow (m := 3) 4 rfl rfl) rfl) rfl ?_
      refine Ops.u (Dtu.mv (lk rfl)) rfl ?_
      refine Ops.u (Dtu.mv (lk rfl)) rfl ?_
      refine Ops.u (Dtu.eql (lk rfl) (lk rfl)) rfl ?_
      refine Ops.e (Stp.store 2 Try.sizeOf29 (lk rfl) (lk rfl) rfl rfl rfl rfl rfl rfl rfl ?_)
      refine Ops.u (Dtu.asg (lk rfl)) rfl ?_
      refine Ops.nil ?_
      refine Then.next ?_
      refine Body.ret ?_
      rw [e2]
      exact ⟨.inr rfl, _, Loads.agg Try.isAgg29 Try.sizeOf29 (Rds.ow (m := 3) 2 rfl rfl) rfl, _, pk [0, 4] rfl, a, m, g, rfl, by rw [e]; rfl, rfl⟩
  by_cases k2 : k = 2
  · subst k2
    have hg : g.op ⟨2, oa, ob, n, ⟨pt, fl, fg, bg⟩⟩ = g.up oa ob n ⟨pt, fl, fg, bg⟩ := rfl
    rw [hg]
    by_cases h : g.rows oa ob n
    · have e := erI_pos h
      have hr1 : (g.up oa ob n ⟨pt, fl, fg, bg⟩).r = g.r := by rw [Gd.up, if_pos h]
      have hr2 : (g.up oa ob n ⟨pt, fl, fg, bg⟩).c = g.c := by rw [Gd.up, if_pos h]
      have hh0 : g.rows oa ob 0 := ⟨h.1, h.2.1, h.2.2.1, by omega⟩
      have hd : decide (g.rows oa ob n) = true := decide_eq_true h
      refine Body.seq ?_
      refine Body.seq ?_
      refine Body.region ?_
      refine Ops.u (Dtu.fld fa41_0 (lk rfl)) rfl ?_
      refine Ops.d (Det.ld Try.isAgg3 (lk rfl) (Rd.ow 2 rfl rfl)) rfl ?_
      refine Ops.nil ?_
      refine Then.next ?_
      refine Body.block ?_
      refine Body.seq ?_
      refine Body.region ?_
      refine Ops.u (Dtu.eql (lk rfl) (lk rfl)) rfl ?_
      refine Ops.u (Dtu.asg (lk rfl)) rfl ?_
      refine Ops.nil ?_
      refine Then.next ?_
      refine Body.condP (lk rfl) (fun hy => absurd hy (by first | omega | assumption | decide)) (fun _ => ?_)
      refine Body.seq ?_
      refine Body.region ?_
      refine Ops.u (Dtu.eql (lk rfl) (lk rfl)) rfl ?_
      refine Ops.u (Dtu.asg (lk rfl)) rfl ?_
      refine Ops.nil ?_
      refine Then.next ?_
      refine Body.condP (lk rfl) (fun hy => absurd hy (by first | omega | assumption | decide)) (fun _ => ?_)
      refine Body.seq ?_
      refine Body.seq ?_
      refine Body.region ?_
      refine Ops.u (Dtu.eql (lk rfl) (lk rfl)) rfl ?_
      refine Ops.u (Dtu.asg (lk rfl)) rfl ?_
      refine Ops.nil ?_
      refine Then.next ?_
      refine Body.condP (lk rfl) (fun _ => ?_) (fun hn => absurd (by first | omega | assumption | decide) hn)
      refine Body.skip ?_
      refine Then.next ?_
      refine Body.condP (lk rfl) (fun _ => ?_) (fun hn => absurd (by first | omega | assumption | decide) hn)
      refine Body.seq ?_
      refine Body.seq ?_
      refine Body.region ?_
      refine Ops.u (Dtu.fld fa41_0 (lk rfl)) rfl ?_
      refine Ops.d (Det.ld Try.isAgg3 (lk rfl) (Rd.ow 2 rfl rfl)) rfl ?_
      refine Ops.u (Dtu.eql (lk rfl) (lk rfl)) rfl ?_
      refine Ops.nil ?_
      refine Then.next ?_
      refine Body.condP (lk rfl) (fun _ => ?_) (fun hn => absurd (by first | omega | assumption | decide) hn)
      refine Body.region ?_
      refine Ops.u (Dtu.mv (lk rfl)) rfl ?_
      refine Ops.u (Dtu.fld fa41_1 (lk rfl)) rfl ?_
      refine Ops.d (Det.ld Try.isAgg3 (lk rfl) (Rd.ow 2 rfl rfl)) rfl ?_
      refine Ops.u (Dtu.fld fa41_2 (lk rfl)) rfl ?_
      refine Ops.d (Det.ld Try.isAgg3 (lk rfl) (Rd.ow 2 rfl rfl)) rfl ?_
      refine Ops.u (Dtu.fld fa41_3 (lk rfl)) rfl ?_
      refine Ops.d (Det.ld Try.isAgg3 (lk rfl) (Rd.ow 2 rfl rfl)) rfl ?_
      refine Ops.u (Dtu.fld fa41_4 (lk rfl)) rfl ?_
      refine Ops.d (Det.lda Try.isAgg39 Try.sizeOf39 (lk rfl) (Rds.ow (m := 4) 2 rfl rfl) rfl) rfl ?_
      refine Ops.s (Stp.callOwn [4] rfl rfl Try.call23 (lks rfl) (fun E' le hat => up_g E' _ _ _ _ _ _ _ _ _) ?_) rfl
      rintro _ _ ⟨rfl, rfl⟩
      refine Ops.u (Dtu.asg (lk rfl)) rfl ?_
      refine Ops.nil ?_
      refine Then.next ?_
      refine Body.seq ?_
      refine Body.region ?_
      refine Ops.u (Dtu.asg (lk rfl)) rfl ?_
      refine Ops.nil ?_
      refine Then.next ?_
      refine Body.seq ?_
      refine Body.region ?_
      refine Ops.u (Dtu.mv (lk rfl)) rfl ?_
      refine Ops.u (Dtu.not (lk rfl)) rfl ?_
      refine Ops.nil ?_
      refine Then.next ?_
      refine Body.cond (lk rfl) (fun _ => ?_) (fun hn => absurd hn (by first | (rw [hd]; decide) | simp [hd]))
      refine Body.region ?_
      refine Ops.d (Det.lda Try.isAgg29 Try.sizeOf29 (lk rfl) (Rds.ow (m := 3) 4 rfl rfl) rfl) rfl ?_
      refine Ops.u (Dtu.fld fa41_1 (lk rfl)) rfl ?_
      refine Ops.d (Det.ld Try.isAgg3 (lk rfl) (Rd.ow 3 rfl rfl)) rfl ?_
      refine Ops.u (Dtu.fld fa41_2 (lk rfl)) rfl ?_
      refine Ops.d (Det.ld Try.isAgg3 (lk rfl) (Rd.ow 3 rfl rfl)) rfl ?_
      refine Ops.u (Dtu.mv (lk rfl)) rfl ?_
      refine Ops.d (Det.lda Try.isAgg49 Try.sizeOf49 (lk rfl) (Rds.ow (m := 11) 1 rfl rfl) rfl) rfl ?_
      refine Ops.s (Stp.call rfl Try.call77 (lks rfl) (fun E' le hat => rmove_ok E' _ _ _ _ _ _ _ _ _ (by first | assumption | omega) (by first | assumption | omega) (by first | assumption | omega) (by first | exact Sl.mono (by assumption) le | exact Sl.at (hat _ (.head _)) | exact Sl.at (hat _ (.tail _ (.head _))) | exact Sl.at (hat _ (.tail _ (.tail _ (.head _)))) | exact Sl.at (hat _ (.tail _ (.tail _ (.tail _ (.head _))))) | exact Sl.at (hat _ (.tail _ (.tail _ (.tail _ (.tail _ (.head _)))))) | exact Sl.at (hat _ (.tail _ (.tail _ (.tail _ (.tail _ (.tail _ (.head _))))))))) ?_) rfl
      rintro _ _ ⟨ra129, rc129, rfl, rfl⟩
      refine Ops.e (Stp.store 5 Try.sizeOf29 (lk rfl) (lk rfl) rfl rfl rfl rfl rfl rfl rfl ?_)
      refine Ops.u (Dtu.asg (lk rfl)) rfl ?_
      refine Ops.nil ?_
      refine Blk.norm ?_
      refine Then.next ?_
      refine Body.seq ?_
      refine Body.region ?_
      refine Ops.d (Det.lda Try.isAgg29 Try.sizeOf29 (lk rfl) (Rds.ow (m := 3) 5 rfl rfl) rfl) rfl ?_
      refine Ops.u (Dtu.mv (lk rfl)) rfl ?_
      refine Ops.u (Dtu.mv (lk rfl)) rfl ?_
      refine Ops.u (Dtu.eql (lk rfl) (lk rfl)) rfl ?_
      refine Ops.e (Stp.store 3 Try.sizeOf29 (lk rfl) (lk rfl) rfl rfl rfl rfl rfl rfl rfl ?_)
      refine Ops.u (Dtu.asg (lk rfl)) rfl ?_
      refine Ops.nil ?_
      refine Then.next ?_
      refine Body.ret ?_
      exact ⟨.inr rfl, _, Loads.agg Try.isAgg29 Try.sizeOf29 (Rds.ow (m := 3) 3 rfl rfl) rfl, _, pk [1, 0] rfl, ra129, rc129, _, rfl, by rw [hr1, hr2, e]; rfl, by rw [← mv_up ok h, hr1, hr2]⟩
    · have e := erI_neg h
      have e2 : g.up oa ob n ⟨pt, fl, fg, bg⟩ = g := if_neg h
      have hd : decide (g.rows oa ob n) = false := decide_eq_false h
      refine Body.seq ?_
      refine Body.seq ?_
      refine Body.region ?_
      refine Ops.u (Dtu.fld fa41_0 (lk rfl)) rfl ?_
      refine Ops.d (Det.ld Try.isAgg3 (lk rfl) (Rd.ow 2 rfl rfl)) rfl ?_
      refine Ops.nil ?_
      refine Then.next ?_
      refine Body.block ?_
      refine Body.seq ?_
      refine Body.region ?_
      refine Ops.u (Dtu.eql (lk rfl) (lk rfl)) rfl ?_
      refine Ops.u (Dtu.asg (lk rfl)) rfl ?_
      refine Ops.nil ?_
      refine Then.next ?_
      refine Body.condP (lk rfl) (fun hy => absurd hy (by first | omega | assumption | decide)) (fun _ => ?_)
      refine Body.seq ?_
      refine Body.region ?_
      refine Ops.u (Dtu.eql (lk rfl) (lk rfl)) rfl ?_
      refine Ops.u (Dtu.asg (lk rfl)) rfl ?_
      refine Ops.nil ?_
      refine Then.next ?_
      refine Body.condP (lk rfl) (fun hy => absurd hy (by first | omega | assumption | decide)) (fun _ => ?_)
      refine Body.seq ?_
      refine Body.seq ?_
      refine Body.region ?_
      refine Ops.u (Dtu.eql (lk rfl) (lk rfl)) rfl ?_
      refine Ops.u (Dtu.asg (lk rfl)) rfl ?_
      refine Ops.nil ?_
      refine Then.next ?_
      refine Body.condP (lk rfl) (fun _ => ?_) (fun hn => absurd (by first | omega | assumption | decide) hn)
      refine Body.skip ?_
      refine Then.next ?_
      refine Body.condP (lk rfl) (fun _ => ?_) (fun hn => absurd (by first | omega | assumption | decide) hn)
      refine Body.seq ?_
      refine Body.seq ?_
      refine Body.region ?_
      refine Ops.u (Dtu.fld fa41_0 (lk rfl)) rfl ?_
      refine Ops.d (Det.ld Try.isAgg3 (lk rfl) (Rd.ow 2 rfl rfl)) rfl ?_
      refine Ops.u (Dtu.eql (lk rfl) (lk rfl)) rfl ?_
      refine Ops.nil ?_
      refine Then.next ?_
      refine Body.condP (lk rfl) (fun _ => ?_) (fun hn => absurd (by first | omega | assumption | decide) hn)
      refine Body.region ?_
      refine Ops.u (Dtu.mv (lk rfl)) rfl ?_
      refine Ops.u (Dtu.fld fa41_1 (lk rfl)) rfl ?_
      refine Ops.d (Det.ld Try.isAgg3 (lk rfl) (Rd.ow 2 rfl rfl)) rfl ?_
      refine Ops.u (Dtu.fld fa41_2 (lk rfl)) rfl ?_
      refine Ops.d (Det.ld Try.isAgg3 (lk rfl) (Rd.ow 2 rfl rfl)) rfl ?_
      refine Ops.u (Dtu.fld fa41_3 (lk rfl)) rfl ?_
      refine Ops.d (Det.ld Try.isAgg3 (lk rfl) (Rd.ow 2 rfl rfl)) rfl ?_
      refine Ops.u (Dtu.fld fa41_4 (lk rfl)) rfl ?_
      refine Ops.d (Det.lda Try.isAgg39 Try.sizeOf39 (lk rfl) (Rds.ow (m := 4) 2 rfl rfl) rfl) rfl ?_
      refine Ops.s (Stp.callOwn [4] rfl rfl Try.call23 (lks rfl) (fun E' le hat => up_g E' _ _ _ _ _ _ _ _ _) ?_) rfl
      rintro _ _ ⟨rfl, rfl⟩
      refine Ops.u (Dtu.asg (lk rfl)) rfl ?_
      refine Ops.nil ?_
      refine Then.next ?_
      refine Body.seq ?_
      refine Body.region ?_
      refine Ops.u (Dtu.asg (lk rfl)) rfl ?_
      refine Ops.nil ?_
      refine Then.next ?_
      refine Body.seq ?_
      refine Body.region ?_
      refine Ops.u (Dtu.mv (lk rfl)) rfl ?_
      refine Ops.u (Dtu.not (lk rfl)) rfl ?_
      refine Ops.nil ?_
      refine Then.next ?_
      refine Body.cond (lk rfl) (fun hn => absurd hn (by first | (rw [hd]; decide) | simp [hd])) (fun _ => ?_)
      refine Body.skip ?_
      refine Blk.norm ?_
      refine Then.next ?_
      refine Body.seq ?_
      refine Body.region ?_
      refine Ops.d (Det.lda Try.isAgg29 Try.sizeOf29 (lk rfl) (Rds.ow (m := 3) 4 rfl rfl) rfl) rfl ?_
      refine Ops.u (Dtu.mv (lk rfl)) rfl ?_
      refine Ops.u (Dtu.mv (lk rfl)) rfl ?_
      refine Ops.u (Dtu.eql (lk rfl) (lk rfl)) rfl ?_
      refine Ops.e (Stp.store 2 Try.sizeOf29 (lk rfl) (lk rfl) rfl rfl rfl rfl rfl rfl rfl ?_)
      refine Ops.u (Dtu.asg (lk rfl)) rfl ?_
      refine Ops.nil ?_
      refine Then.next ?_
      refine Body.ret ?_
      rw [e2]
      exact ⟨.inr rfl, _, Loads.agg Try.isAgg29 Try.sizeOf29 (Rds.ow (m := 3) 2 rfl rfl) rfl, _, pk [0, 4] rfl, a, m, g, rfl, by rw [e]; rfl, rfl⟩
  by_cases k3 : k = 3
  · subst k3
    have hg : g.op ⟨3, oa, ob, n, ⟨pt, fl, fg, bg⟩⟩ = g.down oa ob n ⟨pt, fl, fg, bg⟩ := rfl
    rw [hg]
    by_cases h : g.rows oa ob n
    · have e := erI_pos h
      have hr1 : (g.down oa ob n ⟨pt, fl, fg, bg⟩).r = g.r := by rw [Gd.down, if_pos h]
      have hr2 : (g.down oa ob n ⟨pt, fl, fg, bg⟩).c = g.c := by rw [Gd.down, if_pos h]
      have hh0 : g.rows oa ob 0 := ⟨h.1, h.2.1, h.2.2.1, by omega⟩
      have hd : decide (g.rows oa ob n) = true := decide_eq_true h
      refine Body.seq ?_
      refine Body.seq ?_
      refine Body.region ?_
      refine Ops.u (Dtu.fld fa41_0 (lk rfl)) rfl ?_
      refine Ops.d (Det.ld Try.isAgg3 (lk rfl) (Rd.ow 2 rfl rfl)) rfl ?_
      refine Ops.nil ?_
      refine Then.next ?_
      refine Body.block ?_
      refine Body.seq ?_
      refine Body.region ?_
      refine Ops.u (Dtu.eql (lk rfl) (lk rfl)) rfl ?_
      refine Ops.u (Dtu.asg (lk rfl)) rfl ?_
      refine Ops.nil ?_
      refine Then.next ?_
      refine Body.condP (lk rfl) (fun hy => absurd hy (by first | omega | assumption | decide)) (fun _ => ?_)
      refine Body.seq ?_
      refine Body.region ?_
      refine Ops.u (Dtu.eql (lk rfl) (lk rfl)) rfl ?_
      refine Ops.u (Dtu.asg (lk rfl)) rfl ?_
      refine Ops.nil ?_
      refine Then.next ?_
      refine Body.condP (lk rfl) (fun hy => absurd hy (by first | omega | assumption | decide)) (fun _ => ?_)
      refine Body.seq ?_
      refine Body.seq ?_
      refine Body.region ?_
      refine Ops.u (Dtu.eql (lk rfl) (lk rfl)) rfl ?_
      refine Ops.u (Dtu.asg (lk rfl)) rfl ?_
      refine Ops.nil ?_
      refine Then.next ?_
      refine Body.condP (lk rfl) (fun hy => absurd hy (by first | omega | assumption | decide)) (fun _ => ?_)
      refine Body.region ?_
      refine Ops.u (Dtu.eql (lk rfl) (lk rfl)) rfl ?_
      refine Ops.u (Dtu.asg (lk rfl)) rfl ?_
      refine Ops.nil ?_
      refine Then.next ?_
      refine Body.condP (lk rfl) (fun _ => ?_) (fun hn => absurd (by first | omega | assumption | decide) hn)
      refine Body.seq ?_
      refine Body.seq ?_
      refine Body.region ?_
      refine Ops.u (Dtu.fld fa41_0 (lk rfl)) rfl ?_
      refine Ops.d (Det.ld Try.isAgg3 (lk rfl) (Rd.ow 2 rfl rfl)) rfl ?_
      refine Ops.u (Dtu.eql (lk rfl) (lk rfl)) rfl ?_
      refine Ops.nil ?_
      refine Then.next ?_
      refine Body.condP (lk rfl) (fun hy => absurd hy (by first | omega | assumption | decide)) (fun _ => ?_)
      refine Body.seq ?_
      refine Body.region ?_
      refine Ops.u (Dtu.mv (lk rfl)) rfl ?_
      refine Ops.u (Dtu.fld fa41_1 (lk rfl)) rfl ?_
      refine Ops.d (Det.ld Try.isAgg3 (lk rfl) (Rd.ow 2 rfl rfl)) rfl ?_
      refine Ops.u (Dtu.fld fa41_2 (lk rfl)) rfl ?_
      refine Ops.d (Det.ld Try.isAgg3 (lk rfl) (Rd.ow 2 rfl rfl)) rfl ?_
      refine Ops.u (Dtu.fld fa41_3 (lk rfl)) rfl ?_
      refine Ops.d (Det.ld Try.isAgg3 (lk rfl) (Rd.ow 2 rfl rfl)) rfl ?_
      refine Ops.u (Dtu.fld fa41_4 (lk rfl)) rfl ?_
      refine Ops.d (Det.lda Try.isAgg39 Try.sizeOf39 (lk rfl) (Rds.ow (m := 4) 2 rfl rfl) rfl) rfl ?_
      refine Ops.s (Stp.callOwn [4] rfl rfl Try.call25 (lks rfl) (fun E' le hat => down_g E' _ _ _ _ _ _ _ _ _) ?_) rfl
      rintro _ _ ⟨rfl, rfl⟩
      refine Ops.u (Dtu.asg (lk rfl)) rfl ?_
      refine Ops.nil ?_
      refine Then.next ?_
      refine Body.region ?_
      refine Ops.u (Dtu.mv (lk rfl)) rfl ?_
      refine Ops.u (Dtu.sub (lk rfl) (lk rfl) (w64 (by omega) (by omega))) rfl ?_
      refine Ops.u (Dtu.asg (lk rfl)) rfl ?_
      refine Ops.nil ?_
      refine Then.next ?_
      refine Body.seq ?_
      refine Body.region ?_
      refine Ops.u (Dtu.asg (lk rfl)) rfl ?_
      refine Ops.nil ?_
      refine Then.next ?_
      refine Body.seq ?_
      refine Body.region ?_
      refine Ops.u (Dtu.mv (lk rfl)) rfl ?_
      refine Ops.u (Dtu.not (lk rfl)) rfl ?_
      refine Ops.nil ?_
      refine Then.next ?_
      refine Body.cond (lk rfl) (fun _ => ?_) (fun hn => absurd hn (by first | (rw [hd]; decide) | simp [hd]))
      refine Body.region ?_
      refine Ops.d (Det.lda Try.isAgg29 Try.sizeOf29 (lk rfl) (Rds.ow (m := 3) 4 rfl rfl) rfl) rfl ?_
      refine Ops.u (Dtu.fld fa41_1 (lk rfl)) rfl ?_
      refine Ops.d (Det.ld Try.isAgg3 (lk rfl) (Rd.ow 3 rfl rfl)) rfl ?_
      refine Ops.u (Dtu.fld fa41_2 (lk rfl)) rfl ?_
      refine Ops.d (Det.ld Try.isAgg3 (lk rfl) (Rd.ow 3 rfl rfl)) rfl ?_
      refine Ops.u (Dtu.mv (lk rfl)) rfl ?_
      refine Ops.d (Det.lda Try.isAgg49 Try.sizeOf49 (lk rfl) (Rds.ow (m := 11) 1 rfl rfl) rfl) rfl ?_
      refine Ops.s (Stp.call rfl Try.call77 (lks rfl) (fun E' le hat => rmove_ok E' _ _ _ _ _ _ _ _ _ (by first | assumption | omega) (by first | assumption | omega) (by first | assumption | omega) (by first | exact Sl.mono (by assumption) le | exact Sl.at (hat _ (.head _)) | exact Sl.at (hat _ (.tail _ (.head _))) | exact Sl.at (hat _ (.tail _ (.tail _ (.head _)))) | exact Sl.at (hat _ (.tail _ (.tail _ (.tail _ (.head _))))) | exact Sl.at (hat _ (.tail _ (.tail _ (.tail _ (.tail _ (.head _)))))) | exact Sl.at (hat _ (.tail _ (.tail _ (.tail _ (.tail _ (.tail _ (.head _))))))))) ?_) rfl
      rintro _ _ ⟨ra129, rc129, rfl, rfl⟩
      refine Ops.e (Stp.store 5 Try.sizeOf29 (lk rfl) (lk rfl) rfl rfl rfl rfl rfl rfl rfl ?_)
      refine Ops.u (Dtu.asg (lk rfl)) rfl ?_
      refine Ops.nil ?_
      refine Blk.norm ?_
      refine Then.next ?_
      refine Body.seq ?_
      refine Body.region ?_
      refine Ops.d (Det.lda Try.isAgg29 Try.sizeOf29 (lk rfl) (Rds.ow (m := 3) 5 rfl rfl) rfl) rfl ?_
      refine Ops.u (Dtu.mv (lk rfl)) rfl ?_
      refine Ops.u (Dtu.mv (lk rfl)) rfl ?_
      refine Ops.u (Dtu.eql (lk rfl) (lk rfl)) rfl ?_
      refine Ops.e (Stp.store 3 Try.sizeOf29 (lk rfl) (lk rfl) rfl rfl rfl rfl rfl rfl rfl ?_)
      refine Ops.u (Dtu.asg (lk rfl)) rfl ?_
      refine Ops.nil ?_
      refine Then.next ?_
      refine Body.ret ?_
      exact ⟨.inr rfl, _, Loads.agg Try.isAgg29 Try.sizeOf29 (Rds.ow (m := 3) 3 rfl rfl) rfl, _, pk [1, 0] rfl, ra129, rc129, _, rfl, by rw [hr1, hr2, e]; rfl, by rw [← mv_down ok h, hr1, hr2]⟩
    · have e := erI_neg h
      have e2 : g.down oa ob n ⟨pt, fl, fg, bg⟩ = g := if_neg h
      have hd : decide (g.rows oa ob n) = false := decide_eq_false h
      refine Body.seq ?_
      refine Body.seq ?_
      refine Body.region ?_
      refine Ops.u (Dtu.fld fa41_0 (lk rfl)) rfl ?_
      refine Ops.d (Det.ld Try.isAgg3 (lk rfl) (Rd.ow 2 rfl rfl)) rfl ?_
      refine Ops.nil ?_
      refine Then.next ?_
      refine Body.block ?_
      refine Body.seq ?_
      refine Body.region ?_
      refine Ops.u (Dtu.eql (lk rfl) (lk rfl)) rfl ?_
      refine Ops.u (Dtu.asg (lk rfl)) rfl ?_
      refine Ops.nil ?_
      refine Then.next ?_
      refine Body.condP (lk rfl) (fun hy => absurd hy (by first | omega | assumption | decide)) (fun _ => ?_)
      refine Body.seq ?_
      refine Body.region ?_
      refine Ops.u (Dtu.eql (lk rfl) (lk rfl)) rfl ?_
      refine Ops.u (Dtu.asg (lk rfl)) rfl ?_
      refine Ops.nil ?_
      refine Then.next ?_
      refine Body.condP (lk rfl) (fun hy => absurd hy (by first | omega | assumption | decide)) (fun _ => ?_)
      refine Body.seq ?_
      refine Body.seq ?_
      refine Body.region ?_
      refine Ops.u (Dtu.eql (lk rfl) (lk rfl)) rfl ?_
      refine Ops.u (Dtu.asg (lk rfl)) rfl ?_
      refine Ops.nil ?_
      refine Then.next ?_
      refine Body.condP (lk rfl) (fun hy => absurd hy (by first | omega | assumption | decide)) (fun _ => ?_)
      refine Body.region ?_
      refine Ops.u (Dtu.eql (lk rfl) (lk rfl)) rfl ?_
      refine Ops.u (Dtu.asg (lk rfl)) rfl ?_
      refine Ops.nil ?_
      refine Then.next ?_
      refine Body.condP (lk rfl) (fun _ => ?_) (fun hn => absurd (by first | omega | assumption | decide) hn)
      refine Body.seq ?_
      refine Body.seq ?_
      refine Body.region ?_
      refine Ops.u (Dtu.fld fa41_0 (lk rfl)) rfl ?_
      refine Ops.d (Det.ld Try.isAgg3 (lk rfl) (Rd.ow 2 rfl rfl)) rfl ?_
      refine Ops.u (Dtu.eql (lk rfl) (lk rfl)) rfl ?_
      refine Ops.nil ?_
      refine Then.next ?_
      refine Body.condP (lk rfl) (fun hy => absurd hy (by first | omega | assumption | decide)) (fun _ => ?_)
      refine Body.seq ?_
      refine Body.region ?_
      refine Ops.u (Dtu.mv (lk rfl)) rfl ?_
      refine Ops.u (Dtu.fld fa41_1 (lk rfl)) rfl ?_
      refine Ops.d (Det.ld Try.isAgg3 (lk rfl) (Rd.ow 2 rfl rfl)) rfl ?_
      refine Ops.u (Dtu.fld fa41_2 (lk rfl)) rfl ?_
      refine Ops.d (Det.ld Try.isAgg3 (lk rfl) (Rd.ow 2 rfl rfl)) rfl ?_
      refine Ops.u (Dtu.fld fa41_3 (lk rfl)) rfl ?_
      refine Ops.d (Det.ld Try.isAgg3 (lk rfl) (Rd.ow 2 rfl rfl)) rfl ?_
      refine Ops.u (Dtu.fld fa41_4 (lk rfl)) rfl ?_
      refine Ops.d (Det.lda Try.isAgg39 Try.sizeOf39 (lk rfl) (Rds.ow (m := 4) 2 rfl rfl) rfl) rfl ?_
      refine Ops.s (Stp.callOwn [4] rfl rfl Try.call25 (lks rfl) (fun E' le hat => down_g E' _ _ _ _ _ _ _ _ _) ?_) rfl
      rintro _ _ ⟨rfl, rfl⟩
      refine Ops.u (Dtu.asg (lk rfl)) rfl ?_
      refine Ops.nil ?_
      refine Then.next ?_
      refine Body.region ?_
      refine Ops.u (Dtu.mv (lk rfl)) rfl ?_
      refine Ops.u (Dtu.sub (lk rfl) (lk rfl) (w64 (by omega) (by omega))) rfl ?_
      refine Ops.u (Dtu.asg (lk rfl)) rfl ?_
      refine Ops.nil ?_
      refine Then.next ?_
      refine Body.seq ?_
      refine Body.region ?_
      refine Ops.u (Dtu.asg (lk rfl)) rfl ?_
      refine Ops.nil ?_
      refine Then.next ?_
      refine Body.seq ?_
      refine Body.region ?_
      refine Ops.u (Dtu.mv (lk rfl)) rfl ?_
      refine Ops.u (Dtu.not (lk rfl)) rfl ?_
      refine Ops.nil ?_
      refine Then.next ?_
      refine Body.cond (lk rfl) (fun hn => absurd hn (by first | (rw [hd]; decide) | simp [hd])) (fun _ => ?_)
      refine Body.skip ?_
      refine Blk.norm ?_
      refine Then.next ?_
      refine Body.seq ?_
      refine Body.region ?_
      refine Ops.d (Det.lda Try.isAgg29 Try.sizeOf29 (lk rfl) (Rds.ow (m := 3) 4 rfl rfl) rfl) rfl ?_
      refine Ops.u (Dtu.mv (lk rfl)) rfl ?_
      refine Ops.u (Dtu.mv (lk rfl)) rfl ?_
      refine Ops.u (Dtu.eql (lk rfl) (lk rfl)) rfl ?_
      refine Ops.e (Stp.store 2 Try.sizeOf29 (lk rfl) (lk rfl) rfl rfl rfl rfl rfl rfl rfl ?_)
      refine Ops.u (Dtu.asg (lk rfl)) rfl ?_
      refine Ops.nil ?_
      refine Then.next ?_
      refine Body.ret ?_
      rw [e2]
      exact ⟨.inr rfl, _, Loads.agg Try.isAgg29 Try.sizeOf29 (Rds.ow (m := 3) 2 rfl rfl) rfl, _, pk [0, 4] rfl, a, m, g, rfl, by rw [e]; rfl, rfl⟩
  by_cases k4 : k = 4
  · subst k4
    have hg : g.op ⟨4, oa, ob, n, ⟨pt, fl, fg, bg⟩⟩ = g.ins oa ob n ⟨pt, fl, fg, bg⟩ := rfl
    rw [hg]
    by_cases h : g.has oa ob ∧ 0 ≤ n
    · have e := erI_pos h
      have hr1 : (g.ins oa ob n ⟨pt, fl, fg, bg⟩).r = g.r := by rw [Gd.ins, if_pos h]
      have hr2 : (g.ins oa ob n ⟨pt, fl, fg, bg⟩).c = g.c := by rw [Gd.ins, if_pos h]
      have hh0 := h.1
      have hn := h.2
      have hd := decide_eq_true h.1
      refine Body.seq ?_
      refine Body.seq ?_
      refine Body.region ?_
      refine Ops.u (Dtu.fld fa41_0 (lk rfl)) rfl ?_
      refine Ops.d (Det.ld Try.isAgg3 (lk rfl) (Rd.ow 2 rfl rfl)) rfl ?_
      refine Ops.nil ?_
      refine Then.next ?_
      refine Body.block ?_
      refine Body.seq ?_
      refine Body.region ?_
      refine Ops.u (Dtu.eql (lk rfl) (lk rfl)) rfl ?_
      refine Ops.u (Dtu.asg (lk rfl)) rfl ?_
      refine Ops.nil ?_
      refine Then.next ?_
      refine Body.condP (lk rfl) (fun hy => absurd hy (by first | omega | assumption | decide)) (fun _ => ?_)
      refine Body.seq ?_
      refine Body.region ?_
      refine Ops.u (Dtu.eql (lk rfl) (lk rfl)) rfl ?_
      refine Ops.u (Dtu.asg (lk rfl)) rfl ?_
      refine Ops.nil ?_
      refine Then.next ?_
      refine Body.condP (lk rfl) (fun hy => absurd hy (by first | omega | assumption | decide)) (fun _ => ?_)
      refine Body.seq ?_
      refine Body.seq ?_
      refine Body.region ?_
      refine Ops.u (Dtu.eql (lk rfl) (lk rfl)) rfl ?_
      refine Ops.u (Dtu.asg (lk rfl)) rfl ?_
      refine Ops.nil ?_
      refine Then.next ?_
      refine Body.condP (lk rfl) (fun hy => absurd hy (by first | omega | assumption | decide)) (fun _ => ?_)
      refine Body.region ?_
      refine Ops.u (Dtu.eql (lk rfl) (lk rfl)) rfl ?_
      refine Ops.u (Dtu.asg (lk rfl)) rfl ?_
      refine Ops.nil ?_
      refine Then.next ?_
      refine Body.condP (lk rfl) (fun hy => absurd hy (by first | omega | assumption | decide)) (fun _ => ?_)
      refine Body.seq ?_
      refine Body.seq ?_
      refine Body.region ?_
      refine Ops.u (Dtu.eql (lk rfl) (lk rfl)) rfl ?_
      refine Ops.u (Dtu.asg (lk rfl)) rfl ?_
      refine Ops.nil ?_
      refine Then.next ?_
      refine Body.condP (lk rfl) (fun _ => ?_) (fun hn => absurd (by first | omega | assumption | decide) hn)
      refine Body.skip ?_
      refine Then.next ?_
      refine Body.condP (lk rfl) (fun _ => ?_) (fun hn => absurd (by first | omega | assumption | decide) hn)
      refine Body.seq ?_
      refine Body.seq ?_
      refine Body.region ?_
      refine Ops.u (Dtu.fld fa41_0 (lk rfl)) rfl ?_
      refine Ops.d (Det.ld Try.isAgg3 (lk rfl) (Rd.ow 2 rfl rfl)) rfl ?_
      refine Ops.u (Dtu.eql (lk rfl) (lk rfl)) rfl ?_
      refine Ops.nil ?_
      refine Then.next ?_
      refine Body.condP (lk rfl) (fun _ => ?_) (fun hn => absurd (by first | omega | assumption | decide) hn)
      refine Body.seq ?_
      refine Body.region ?_
      refine Ops.u (Dtu.mv (lk rfl)) rfl ?_
      refine Ops.u (Dtu.fld fa41_1 (lk rfl)) rfl ?_
      refine Ops.d (Det.ld Try.isAgg3 (lk rfl) (Rd.ow 2 rfl rfl)) rfl ?_
      refine Ops.u (Dtu.fld fa41_2 (lk rfl)) rfl ?_
      refine Ops.d (Det.ld Try.isAgg3 (lk rfl) (Rd.ow 2 rfl rfl)) rfl ?_
      refine Ops.u (Dtu.fld fa41_3 (lk rfl)) rfl ?_
      refine Ops.d (Det.ld Try.isAgg3 (lk rfl) (Rd.ow 2 rfl rfl)) rfl ?_
      refine Ops.u (Dtu.fld fa41_4 (lk rfl)) rfl ?_
      refine Ops.d (Det.lda Try.isAgg39 Try.sizeOf39 (lk rfl) (Rds.ow (m := 4) 2 rfl rfl) rfl) rfl ?_
      refine Ops.s (Stp.callOwn [4] rfl rfl Try.call26 (lks rfl) (fun E' le hat => insert_g E' _ _ _ _ _ _ _ _ _) ?_) rfl
      rintro _ _ ⟨rfl, rfl⟩
      refine Ops.u (Dtu.asg (lk rfl)) rfl ?_
      refine Ops.nil ?_
      refine Then.next ?_
      refine Body.region ?_
      refine Ops.u (Dtu.mv (lk rfl)) rfl ?_
      refine Ops.u (Dtu.sub (lk rfl) (lk rfl) (w64 (by omega) (by omega))) rfl ?_
      refine Ops.u (Dtu.asg (lk rfl)) rfl ?_
      refine Ops.nil ?_
      refine Then.next ?_
      refine Body.seq ?_
      refine Body.region ?_
      refine Ops.u (Dtu.asg (lk rfl)) rfl ?_
      refine Ops.nil ?_
      refine Then.next ?_
      refine Body.seq ?_
      refine Body.region ?_
      refine Ops.d (Det.lda Try.isAgg29 Try.sizeOf29 (lk rfl) (Rds.ow (m := 3) 4 rfl rfl) rfl) rfl ?_
      refine Ops.u (Dtu.fld fa41_1 (lk rfl)) rfl ?_
      refine Ops.d (Det.ld Try.isAgg3 (lk rfl) (Rd.ow 3 rfl rfl)) rfl ?_
      refine Ops.u (Dtu.fld fa41_2 (lk rfl)) rfl ?_
      refine Ops.d (Det.ld Try.isAgg3 (lk rfl) (Rd.ow 3 rfl rfl)) rfl ?_
      refine Ops.s (Stp.call rfl Try.call17 (lks rfl) (fun E' le hat => rhas_ok E' _ _ _ _ ⟨_, _, _, rfl⟩) ?_) rfl
      rintro _ _ ⟨rfl, rfl⟩
      refine Ops.u (Dtu.mv (lk rfl)) rfl ?_
      refine Ops.decP 164 rfl (fun _ => ?_) (fun hn => absurd (by first | omega | assumption | decide) hn)
      refine Ops.gu rfl rfl rfl (Dtu.fld fa41_3 (lk rfl)) rfl ?_
      refine Ops.gd rfl rfl rfl (Det.ld Try.isAgg3 (lk rfl) (Rd.ow 3 rfl rfl)) rfl ?_
      refine Ops.gu rfl rfl rfl (Dtu.geq (lk rfl) (lk rfl)) rfl ?_
      refine Ops.u (Dtu.pickT (lk rfl) (lk rfl)) rfl ?_
      refine Ops.nil ?_
      refine Then.next ?_
      refine Body.condP (lk rfl) (fun _ => ?_) (fun hn => absurd (by first | omega | assumption | decide) hn)
      refine Body.region ?_
      refine Ops.d (Det.lda Try.isAgg29 Try.sizeOf29 (lk rfl) (Rds.ow (m := 3) 4 rfl rfl) rfl) rfl ?_
      refine Ops.u (Dtu.fld fa41_1 (lk rfl)) rfl ?_
      refine Ops.d (Det.ld Try.isAgg3 (lk rfl) (Rd.ow 3 rfl rfl)) rfl ?_
      refine Ops.u (Dtu.fld fa41_2 (lk rfl)) rfl ?_
      refine Ops.d (Det.ld Try.isAgg3 (lk rfl) (Rd.ow 3 rfl rfl)) rfl ?_
      refine Ops.u (Dtu.mv (lk rfl)) rfl ?_
      refine Ops.d (Det.lda Try.isAgg49 Try.sizeOf49 (lk rfl) (Rds.ow (m := 11) 1 rfl rfl) rfl) rfl ?_
      refine Ops.s (Stp.call rfl Try.call78 (lks rfl) (fun E' le hat => rshift_ok E' _ _ _ _ _ _ _ _ _ (by first | assumption | omega) (by first | assumption | omega) (by first | assumption | omega) (by first | exact Sl.mono (by assumption) le | exact Sl.at (hat _ (.head _)) | exact Sl.at (hat _ (.tail _ (.head _))) | exact Sl.at (hat _ (.tail _ (.tail _ (.head _)))) | exact Sl.at (hat _ (.tail _ (.tail _ (.tail _ (.head _))))) | exact Sl.at (hat _ (.tail _ (.tail _ (.tail _ (.tail _ (.head _)))))) | exact Sl.at (hat _ (.tail _ (.tail _ (.tail _ (.tail _ (.tail _ (.head _))))))))) ?_) rfl
      rintro _ _ ⟨ra176, rc176, rfl, rfl⟩
      refine Ops.e (Stp.store 5 Try.sizeOf29 (lk rfl) (lk rfl) rfl rfl rfl rfl rfl rfl rfl ?_)
      refine Ops.u (Dtu.asg (lk rfl)) rfl ?_
      refine Ops.nil ?_
      refine Blk.norm ?_
      refine Then.next ?_
      refine Body.seq ?_
      refine Body.region ?_
      refine Ops.d (Det.lda Try.isAgg29 Try.sizeOf29 (lk rfl) (Rds.ow (m := 3) 5 rfl rfl) rfl) rfl ?_
      refine Ops.u (Dtu.mv (lk rfl)) rfl ?_
      refine Ops.u (Dtu.mv (lk rfl)) rfl ?_
      refine Ops.u (Dtu.eql (lk rfl) (lk rfl)) rfl ?_
      refine Ops.e (Stp.store 3 Try.sizeOf29 (lk rfl) (lk rfl) rfl rfl rfl rfl rfl rfl rfl ?_)
      refine Ops.u (Dtu.asg (lk rfl)) rfl ?_
      refine Ops.nil ?_
      refine Then.next ?_
      refine Body.ret ?_
      exact ⟨.inr rfl, _, Loads.agg Try.isAgg29 Try.sizeOf29 (Rds.ow (m := 3) 3 rfl rfl) rfl, _, pk [1, 0] rfl, ra176, rc176, _, rfl, by rw [hr1, hr2, e]; rfl, by rw [← sh_ins ok h, hr1, hr2]⟩
    · have e := erI_neg h
      have e2 : g.ins oa ob n ⟨pt, fl, fg, bg⟩ = g := if_neg h
      by_cases hhs : g.has oa ob
      · have hd := decide_eq_true hhs
        have hn : ¬ 0 ≤ n := fun hn => h ⟨hhs, hn⟩
        refine Body.seq ?_
        refine Body.seq ?_
        refine Body.region ?_
        refine Ops.u (Dtu.fld fa41_0 (lk rfl)) rfl ?_
        refine Ops.d (Det.ld Try.isAgg3 (lk rfl) (Rd.ow 2 rfl rfl)) rfl ?_
        refine Ops.nil ?_
        refine Then.next ?_
        refine Body.block ?_
        refine Body.seq ?_
        refine Body.region ?_
        refine Ops.u (Dtu.eql (lk rfl) (lk rfl)) rfl ?_
        refine Ops.u (Dtu.asg (lk rfl)) rfl ?_
        refine Ops.nil ?_
        refine Then.next ?_
        refine Body.condP (lk rfl) (fun hy => absurd hy (by first | omega | assumption | decide)) (fun _ => ?_)
        refine Body.seq ?_
        refine Body.region ?_
        refine Ops.u (Dtu.eql (lk rfl) (lk rfl)) rfl ?_
        refine Ops.u (Dtu.asg (lk rfl)) rfl ?_
        refine Ops.nil ?_
        refine Then.next ?_
        refine Body.condP (lk rfl) (fun hy => absurd hy (by first | omega | assumption | decide)) (fun _ => ?_)
        refine Body.seq ?_
        refine Body.seq ?_
        refine Body.region ?_
        refine Ops.u (Dtu.eql (lk rfl) (lk rfl)) rfl ?_
        refine Ops.u (Dtu.asg (lk rfl)) rfl ?_
        refine Ops.nil ?_
        refine Then.next ?_
        refine Body.condP (lk rfl) (fun hy => absurd hy (by first | omega | assumption | decide)) (fun _ => ?_)
        refine Body.region ?_
        refine Ops.u (Dtu.eql (lk rfl) (lk rfl)) rfl ?_
        refine Ops.u (Dtu.asg (lk rfl)) rfl ?_
        refine Ops.nil ?_
        refine Then.next ?_
        refine Body.condP (lk rfl) (fun hy => absurd hy (by first | omega | assumption | decide)) (fun _ => ?_)
        refine Body.seq ?_
        refine Body.seq ?_
        refine Body.region ?_
        refine Ops.u (Dtu.eql (lk rfl) (lk rfl)) rfl ?_
        refine Ops.u (Dtu.asg (lk rfl)) rfl ?_
        refine Ops.nil ?_
        refine Then.next ?_
        refine Body.condP (lk rfl) (fun _ => ?_) (fun hn => absurd (by first | omega | assumption | decide) hn)
        refine Body.skip ?_
        refine Then.next ?_
        refine Body.condP (lk rfl) (fun _ => ?_) (fun hn => absurd (by first | omega | assumption | decide) hn)
        refine Body.seq ?_
        refine Body.seq ?_
        refine Body.region ?_
        refine Ops.u (Dtu.fld fa41_0 (lk rfl)) rfl ?_
        refine Ops.d (Det.ld Try.isAgg3 (lk rfl) (Rd.ow 2 rfl rfl)) rfl ?_
        refine Ops.u (Dtu.eql (lk rfl) (lk rfl)) rfl ?_
        refine Ops.nil ?_
        refine Then.next ?_
        refine Body.condP (lk rfl) (fun _ => ?_) (fun hn => absurd (by first | omega | assumption | decide) hn)
        refine Body.seq ?_
        refine Body.region ?_
        refine Ops.u (Dtu.mv (lk rfl)) rfl ?_
        refine Ops.u (Dtu.fld fa41_1 (lk rfl)) rfl ?_
        refine Ops.d (Det.ld Try.isAgg3 (lk rfl) (Rd.ow 2 rfl rfl)) rfl ?_
        refine Ops.u (Dtu.fld fa41_2 (lk rfl)) rfl ?_
        refine Ops.d (Det.ld Try.isAgg3 (lk rfl) (Rd.ow 2 rfl rfl)) rfl ?_
        refine Ops.u (Dtu.fld fa41_3 (lk rfl)) rfl ?_
        refine Ops.d (Det.ld Try.isAgg3 (lk rfl) (Rd.ow 2 rfl rfl)) rfl ?_
        refine Ops.u (Dtu.fld fa41_4 (lk rfl)) rfl ?_
        refine Ops.d (Det.lda Try.isAgg39 Try.sizeOf39 (lk rfl) (Rds.ow (m := 4) 2 rfl rfl) rfl) rfl ?_
        refine Ops.s (Stp.callOwn [4] rfl rfl Try.call26 (lks rfl) (fun E' le hat => insert_g E' _ _ _ _ _ _ _ _ _) ?_) rfl
        rintro _ _ ⟨rfl, rfl⟩
        refine Ops.u (Dtu.asg (lk rfl)) rfl ?_
        refine Ops.nil ?_
        refine Then.next ?_
        refine Body.region ?_
        refine Ops.u (Dtu.mv (lk rfl)) rfl ?_
        refine Ops.u (Dtu.sub (lk rfl) (lk rfl) (w64 (by omega) (by omega))) rfl ?_
        refine Ops.u (Dtu.asg (lk rfl)) rfl ?_
        refine Ops.nil ?_
        refine Then.next ?_
        refine Body.seq ?_
        refine Body.region ?_
        refine Ops.u (Dtu.asg (lk rfl)) rfl ?_
        refine Ops.nil ?_
        refine Then.next ?_
        refine Body.seq ?_
        refine Body.region ?_
        refine Ops.d (Det.lda Try.isAgg29 Try.sizeOf29 (lk rfl) (Rds.ow (m := 3) 4 rfl rfl) rfl) rfl ?_
        refine Ops.u (Dtu.fld fa41_1 (lk rfl)) rfl ?_
        refine Ops.d (Det.ld Try.isAgg3 (lk rfl) (Rd.ow 3 rfl rfl)) rfl ?_
        refine Ops.u (Dtu.fld fa41_2 (lk rfl)) rfl ?_
        refine Ops.d (Det.ld Try.isAgg3 (lk rfl) (Rd.ow 3 rfl rfl)) rfl ?_
        refine Ops.s (Stp.call rfl Try.call17 (lks rfl) (fun E' le hat => rhas_ok E' _ _ _ _ ⟨_, _, _, rfl⟩) ?_) rfl
        rintro _ _ ⟨rfl, rfl⟩
        refine Ops.u (Dtu.mv (lk rfl)) rfl ?_
        refine Ops.decP 164 rfl (fun _ => ?_) (fun hn => absurd (by first | omega | assumption | decide) hn)
        refine Ops.gu rfl rfl rfl (Dtu.fld fa41_3 (lk rfl)) rfl ?_
        refine Ops.gd rfl rfl rfl (Det.ld Try.isAgg3 (lk rfl) (Rd.ow 3 rfl rfl)) rfl ?_
        refine Ops.gu rfl rfl rfl (Dtu.geq (lk rfl) (lk rfl)) rfl ?_
        refine Ops.u (Dtu.pickT (lk rfl) (lk rfl)) rfl ?_
        refine Ops.nil ?_
        refine Then.next ?_
        refine Body.condP (lk rfl) (fun hy => absurd hy (by first | omega | assumption | decide)) (fun _ => ?_)
        refine Body.skip ?_
        refine Blk.norm ?_
        refine Then.next ?_
        refine Body.seq ?_
        refine Body.region ?_
        refine Ops.d (Det.lda Try.isAgg29 Try.sizeOf29 (lk rfl) (Rds.ow (m := 3) 4 rfl rfl) rfl) rfl ?_
        refine Ops.u (Dtu.mv (lk rfl)) rfl ?_
        refine Ops.u (Dtu.mv (lk rfl)) rfl ?_
        refine Ops.u (Dtu.eql (lk rfl) (lk rfl)) rfl ?_
        refine Ops.e (Stp.store 2 Try.sizeOf29 (lk rfl) (lk rfl) rfl rfl rfl rfl rfl rfl rfl ?_)
        refine Ops.u (Dtu.asg (lk rfl)) rfl ?_
        refine Ops.nil ?_
        refine Then.next ?_
        refine Body.ret ?_
        rw [e2]
        exact ⟨.inr rfl, _, Loads.agg Try.isAgg29 Try.sizeOf29 (Rds.ow (m := 3) 2 rfl rfl) rfl, _, pk [0, 4] rfl, a, m, g, rfl, by rw [e]; rfl, rfl⟩
      · have hd := decide_eq_false hhs
        refine Body.seq ?_
        refine Body.seq ?_
        refine Body.region ?_
        refine Ops.u (Dtu.fld fa41_0 (lk rfl)) rfl ?_
        refine Ops.d (Det.ld Try.isAgg3 (lk rfl) (Rd.ow 2 rfl rfl)) rfl ?_
        refine Ops.nil ?_
        refine Then.next ?_
        refine Body.block ?_
        refine Body.seq ?_
        refine Body.region ?_
        refine Ops.u (Dtu.eql (lk rfl) (lk rfl)) rfl ?_
        refine Ops.u (Dtu.asg (lk rfl)) rfl ?_
        refine Ops.nil ?_
        refine Then.next ?_
        refine Body.condP (lk rfl) (fun hy => absurd hy (by first | omega | assumption | decide)) (fun _ => ?_)
        refine Body.seq ?_
        refine Body.region ?_
        refine Ops.u (Dtu.eql (lk rfl) (lk rfl)) rfl ?_
        refine Ops.u (Dtu.asg (lk rfl)) rfl ?_
        refine Ops.nil ?_
        refine Then.next ?_
        refine Body.condP (lk rfl) (fun hy => absurd hy (by first | omega | assumption | decide)) (fun _ => ?_)
        refine Body.seq ?_
        refine Body.seq ?_
        refine Body.region ?_
        refine Ops.u (Dtu.eql (lk rfl) (lk rfl)) rfl ?_
        refine Ops.u (Dtu.asg (lk rfl)) rfl ?_
        refine Ops.nil ?_
        refine Then.next ?_
        refine Body.condP (lk rfl) (fun hy => absurd hy (by first | omega | assumption | decide)) (fun _ => ?_)
        refine Body.region ?_
        refine Ops.u (Dtu.eql (lk rfl) (lk rfl)) rfl ?_
        refine Ops.u (Dtu.asg (lk rfl)) rfl ?_
        refine Ops.nil ?_
        refine Then.next ?_
        refine Body.condP (lk rfl) (fun hy => absurd hy (by first | omega | assumption | decide)) (fun _ => ?_)
        refine Body.seq ?_
        refine Body.seq ?_
        refine Body.region ?_
        refine Ops.u (Dtu.eql (lk rfl) (lk rfl)) rfl ?_
        refine Ops.u (Dtu.asg (lk rfl)) rfl ?_
        refine Ops.nil ?_
        refine Then.next ?_
        refine Body.condP (lk rfl) (fun _ => ?_) (fun hn => absurd (by first | omega | assumption | decide) hn)
        refine Body.skip ?_
        refine Then.next ?_
        refine Body.condP (lk rfl) (fun _ => ?_) (fun hn => absurd (by first | omega | assumption | decide) hn)
        refine Body.seq ?_
        refine Body.seq ?_
        refine Body.region ?_
        refine Ops.u (Dtu.fld fa41_0 (lk rfl)) rfl ?_
        refine Ops.d (Det.ld Try.isAgg3 (lk rfl) (Rd.ow 2 rfl rfl)) rfl ?_
        refine Ops.u (Dtu.eql (lk rfl) (lk rfl)) rfl ?_
        refine Ops.nil ?_
        refine Then.next ?_
        refine Body.condP (lk rfl) (fun _ => ?_) (fun hn => absurd (by first | omega | assumption | decide) hn)
        refine Body.seq ?_
        refine Body.region ?_
        refine Ops.u (Dtu.mv (lk rfl)) rfl ?_
        refine Ops.u (Dtu.fld fa41_1 (lk rfl)) rfl ?_
        refine Ops.d (Det.ld Try.isAgg3 (lk rfl) (Rd.ow 2 rfl rfl)) rfl ?_
        refine Ops.u (Dtu.fld fa41_2 (lk rfl)) rfl ?_
        refine Ops.d (Det.ld Try.isAgg3 (lk rfl) (Rd.ow 2 rfl rfl)) rfl ?_
        refine Ops.u (Dtu.fld fa41_3 (lk rfl)) rfl ?_
        refine Ops.d (Det.ld Try.isAgg3 (lk rfl) (Rd.ow 2 rfl rfl)) rfl ?_
        refine Ops.u (Dtu.fld fa41_4 (lk rfl)) rfl ?_
        refine Ops.d (Det.lda Try.isAgg39 Try.sizeOf39 (lk rfl) (Rds.ow (m := 4) 2 rfl rfl) rfl) rfl ?_
        refine Ops.s (Stp.callOwn [4] rfl rfl Try.call26 (lks rfl) (fun E' le hat => insert_g E' _ _ _ _ _ _ _ _ _) ?_) rfl
        rintro _ _ ⟨rfl, rfl⟩
        refine Ops.u (Dtu.asg (lk rfl)) rfl ?_
        refine Ops.nil ?_
        refine Then.next ?_
        refine Body.region ?_
        refine Ops.u (Dtu.mv (lk rfl)) rfl ?_
        refine Ops.u (Dtu.sub (lk rfl) (lk rfl) (w64 (by omega) (by omega))) rfl ?_
        refine Ops.u (Dtu.asg (lk rfl)) rfl ?_
        refine Ops.nil ?_
        refine Then.next ?_
        refine Body.seq ?_
        refine Body.region ?_
        refine Ops.u (Dtu.asg (lk rfl)) rfl ?_
        refine Ops.nil ?_
        refine Then.next ?_
        refine Body.seq ?_
        refine Body.region ?_
        refine Ops.d (Det.lda Try.isAgg29 Try.sizeOf29 (lk rfl) (Rds.ow (m := 3) 4 rfl rfl) rfl) rfl ?_
        refine Ops.u (Dtu.fld fa41_1 (lk rfl)) rfl ?_
        refine Ops.d (Det.ld Try.isAgg3 (lk rfl) (Rd.ow 3 rfl rfl)) rfl ?_
        refine Ops.u (Dtu.fld fa41_2 (lk rfl)) rfl ?_
        refine Ops.d (Det.ld Try.isAgg3 (lk rfl) (Rd.ow 3 rfl rfl)) rfl ?_
        refine Ops.s (Stp.call rfl Try.call17 (lks rfl) (fun E' le hat => rhas_ok E' _ _ _ _ ⟨_, _, _, rfl⟩) ?_) rfl
        rintro _ _ ⟨rfl, rfl⟩
        refine Ops.u (Dtu.mv (lk rfl)) rfl ?_
        refine Ops.decP 164 rfl (fun hy => absurd hy (by first | omega | assumption | decide)) (fun _ => ?_)
        refine Ops.gn rfl rfl rfl rfl rfl ?_
        refine Ops.gn rfl rfl rfl rfl rfl ?_
        refine Ops.gn rfl rfl rfl rfl rfl ?_
        refine Ops.u (Dtu.pickF (lk rfl) (lk rfl)) rfl ?_
        refine Ops.nil ?_
        refine Then.next ?_
        refine Body.condF (lk rfl) ?_
        refine Body.skip ?_
        refine Blk.norm ?_
        refine Then.next ?_
        refine Body.seq ?_
        refine Body.region ?_
        refine Ops.d (Det.lda Try.isAgg29 Try.sizeOf29 (lk rfl) (Rds.ow (m := 3) 4 rfl rfl) rfl) rfl ?_
        refine Ops.u (Dtu.mv (lk rfl)) rfl ?_
        refine Ops.u (Dtu.mv (lk rfl)) rfl ?_
        refine Ops.u (Dtu.eql (lk rfl) (lk rfl)) rfl ?_
        refine Ops.e (Stp.store 2 Try.sizeOf29 (lk rfl) (lk rfl) rfl rfl rfl rfl rfl rfl rfl ?_)
        refine Ops.u (Dtu.asg (lk rfl)) rfl ?_
        refine Ops.nil ?_
        refine Then.next ?_
        refine Body.ret ?_
        rw [e2]
        exact ⟨.inr rfl, _, Loads.agg Try.isAgg29 Try.sizeOf29 (Rds.ow (m := 3) 2 rfl rfl) rfl, _, pk [0, 4] rfl, a, m, g, rfl, by rw [e]; rfl, rfl⟩
  by_cases k5 : k = 5
  · subst k5
    have hg : g.op ⟨5, oa, ob, n, ⟨pt, fl, fg, bg⟩⟩ = g.del oa ob n ⟨pt, fl, fg, bg⟩ := rfl
    rw [hg]
    by_cases h : g.has oa ob ∧ 0 ≤ n
    · have e := erI_pos h
      have hr1 : (g.del oa ob n ⟨pt, fl, fg, bg⟩).r = g.r := by rw [Gd.del, if_pos h]
      have hr2 : (g.del oa ob n ⟨pt, fl, fg, bg⟩).c = g.c := by rw [Gd.del, if_pos h]
      have hh0 := h.1
      have hn := h.2
      have hd := decide_eq_true h.1
      refine Body.seq ?_
      refine Body.seq ?_
      refine Body.region ?_
      refine Ops.u (Dtu.fld fa41_0 (lk rfl)) rfl ?_
      refine Ops.d (Det.ld Try.isAgg3 (lk rfl) (Rd.ow 2 rfl rfl)) rfl ?_
      refine Ops.nil ?_
      refine Then.next ?_
      refine Body.block ?_
      refine Body.seq ?_
      refine Body.region ?_
      refine Ops.u (Dtu.eql (lk rfl) (lk rfl)) rfl ?_
      refine Ops.u (Dtu.asg (lk rfl)) rfl ?_
      refine Ops.nil ?_
      refine Then.next ?_
      refine Body.condP (lk rfl) (fun hy => absurd hy (by first | omega | assumption | decide)) (fun _ => ?_)
      refine Body.seq ?_
      refine Body.region ?_
      refine Ops.u (Dtu.eql (lk rfl) (lk rfl)) rfl ?_
      refine Ops.u (Dtu.asg (lk rfl)) rfl ?_
      refine Ops.nil ?_
      refine Then.next ?_
      refine Body.condP (lk rfl) (fun hy => absurd hy (by first | omega | assumption | decide)) (fun _ => ?_)
      refine Body.seq ?_
      refine Body.seq ?_
      refine Body.region ?_
      refine Ops.u (Dtu.eql (lk rfl) (lk rfl)) rfl ?_
      refine Ops.u (Dtu.asg (lk rfl)) rfl ?_
      refine Ops.nil ?_
      refine Then.next ?_
      refine Body.condP (lk rfl) (fun hy => absurd hy (by first | omega | assumption | decide)) (fun _ => ?_)
      refine Body.region ?_
      refine Ops.u (Dtu.eql (lk rfl) (lk rfl)) rfl ?_
      refine Ops.u (Dtu.asg (lk rfl)) rfl ?_
      refine Ops.nil ?_
      refine Then.next ?_
      refine Body.condP (lk rfl) (fun hy => absurd hy (by first | omega | assumption | decide)) (fun _ => ?_)
      refine Body.seq ?_
      refine Body.seq ?_
      refine Body.region ?_
      refine Ops.u (Dtu.eql (lk rfl) (lk rfl)) rfl ?_
      refine Ops.u (Dtu.asg (lk rfl)) rfl ?_
      refine Ops.nil ?_
      refine Then.next ?_
      refine Body.condP (lk rfl) (fun hy => absurd hy (by first | omega | assumption | decide)) (fun _ => ?_)
      refine Body.region ?_
      refine Ops.u (Dtu.eql (lk rfl) (lk rfl)) rfl ?_
      refine Ops.u (Dtu.asg (lk rfl)) rfl ?_
      refine Ops.nil ?_
      refine Then.next ?_
      refine Body.condP (lk rfl) (fun _ => ?_) (fun hn => absurd (by first | omega | assumption | decide) hn)
      refine Body.seq ?_
      refine Body.seq ?_
      refine Body.region ?_
      refine Ops.u (Dtu.fld fa41_0 (lk rfl)) rfl ?_
      refine Ops.d (Det.ld Try.isAgg3 (lk rfl) (Rd.ow 2 rfl rfl)) rfl ?_
      refine Ops.u (Dtu.eql (lk rfl) (lk rfl)) rfl ?_
      refine Ops.nil ?_
      refine Then.next ?_
      refine Body.condP (lk rfl) (fun hy => absurd hy (by first | omega | assumption | decide)) (fun _ => ?_)
      refine Body.region ?_
      refine Ops.u (Dtu.mv (lk rfl)) rfl ?_
      refine Ops.u (Dtu.fld fa41_1 (lk rfl)) rfl ?_
      refine Ops.d (Det.ld Try.isAgg3 (lk rfl) (Rd.ow 2 rfl rfl)) rfl ?_
      refine Ops.u (Dtu.fld fa41_2 (lk rfl)) rfl ?_
      refine Ops.d (Det.ld Try.isAgg3 (lk rfl) (Rd.ow 2 rfl rfl)) rfl ?_
      refine Ops.u (Dtu.fld fa41_3 (lk rfl)) rfl ?_
      refine Ops.d (Det.ld Try.isAgg3 (lk rfl) (Rd.ow 2 rfl rfl)) rfl ?_
      refine Ops.u (Dtu.fld fa41_4 (lk rfl)) rfl ?_
      refine Ops.d (Det.lda Try.isAgg39 Try.sizeOf39 (lk rfl) (Rds.ow (m := 4) 2 rfl rfl) rfl) rfl ?_
      refine Ops.s (Stp.callOwn [4] rfl rfl Try.call27 (lks rfl) (fun E' le hat => delete_g E' _ _ _ _ _ _ _ _ _) ?_) rfl
      rintro _ _ ⟨rfl, rfl⟩
      refine Ops.u (Dtu.asg (lk rfl)) rfl ?_
      refine Ops.nil ?_
      refine Then.next ?_
      refine Body.seq ?_
      refine Body.region ?_
      refine Ops.u (Dtu.asg (lk rfl)) rfl ?_
      refine Ops.nil ?_
      refine Then.next ?_
      refine Body.seq ?_
      refine Body.region ?_
      refine Ops.d (Det.lda Try.isAgg29 Try.sizeOf29 (lk rfl) (Rds.ow (m := 3) 4 rfl rfl) rfl) rfl ?_
      refine Ops.u (Dtu.fld fa41_1 (lk rfl)) rfl ?_
      refine Ops.d (Det.ld Try.isAgg3 (lk rfl) (Rd.ow 3 rfl rfl)) rfl ?_
      refine Ops.u (Dtu.fld fa41_2 (lk rfl)) rfl ?_
      refine Ops.d (Det.ld Try.isAgg3 (lk rfl) (Rd.ow 3 rfl rfl)) rfl ?_
      refine Ops.s (Stp.call rfl Try.call17 (lks rfl) (fun E' le hat => rhas_ok E' _ _ _ _ ⟨_, _, _, rfl⟩) ?_) rfl
      rintro _ _ ⟨rfl, rfl⟩
      refine Ops.u (Dtu.mv (lk rfl)) rfl ?_
      refine Ops.decP 164 rfl (fun _ => ?_) (fun hn => absurd (by first | omega | assumption | decide) hn)
      refine Ops.gu rfl rfl rfl (Dtu.fld fa41_3 (lk rfl)) rfl ?_
      refine Ops.gd rfl rfl rfl (Det.ld Try.isAgg3 (lk rfl) (Rd.ow 3 rfl rfl)) rfl ?_
      refine Ops.gu rfl rfl rfl (Dtu.geq (lk rfl) (lk rfl)) rfl ?_
      refine Ops.u (Dtu.pickT (lk rfl) (lk rfl)) rfl ?_
      refine Ops.nil ?_
      refine Then.next ?_
      refine Body.condP (lk rfl) (fun _ => ?_) (fun hn => absurd (by first | omega | assumption | decide) hn)
      refine Body.region ?_
      refine Ops.d (Det.lda Try.isAgg29 Try.sizeOf29 (lk rfl) (Rds.ow (m := 3) 4 rfl rfl) rfl) rfl ?_
      refine Ops.u (Dtu.fld fa41_1 (lk rfl)) rfl ?_
      refine Ops.d (Det.ld Try.isAgg3 (lk rfl) (Rd.ow 3 rfl rfl)) rfl ?_
      refine Ops.u (Dtu.fld fa41_2 (lk rfl)) rfl ?_
      refine Ops.d (Det.ld Try.isAgg3 (lk rfl) (Rd.ow 3 rfl rfl)) rfl ?_
      refine Ops.u (Dtu.mv (lk rfl)) rfl ?_
      refine Ops.d (Det.lda Try.isAgg49 Try.sizeOf49 (lk rfl) (Rds.ow (m := 11) 1 rfl rfl) rfl) rfl ?_
      refine Ops.s (Stp.call rfl Try.call78 (lks rfl) (fun E' le hat => rshift_ok E' _ _ _ _ _ _ _ _ _ (by first | assumption | omega) (by first | assumption | omega) (by first | assumption | omega) (by first | exact Sl.mono (by assumption) le | exact Sl.at (hat _ (.head _)) | exact Sl.at (hat _ (.tail _ (.head _))) | exact Sl.at (hat _ (.tail _ (.tail _ (.head _)))) | exact Sl.at (hat _ (.tail _ (.tail _ (.tail _ (.head _))))) | exact Sl.at (hat _ (.tail _ (.tail _ (.tail _ (.tail _ (.head _)))))) | exact Sl.at (hat _ (.tail _ (.tail _ (.tail _ (.tail _ (.tail _ (.head _))))))))) ?_) rfl
      rintro _ _ ⟨ra176, rc176, rfl, rfl⟩
      refine Ops.e (Stp.store 5 Try.sizeOf29 (lk rfl) (lk rfl) rfl rfl rfl rfl rfl rfl rfl ?_)
      refine Ops.u (Dtu.asg (lk rfl)) rfl ?_
      refine Ops.nil ?_
      refine Blk.norm ?_
      refine Then.next ?_
      refine Body.seq ?_
      refine Body.region ?_
      refine Ops.d (Det.lda Try.isAgg29 Try.sizeOf29 (lk rfl) (Rds.ow (m := 3) 5 rfl rfl) rfl) rfl ?_
      refine Ops.u (Dtu.mv (lk rfl)) rfl ?_
      refine Ops.u (Dtu.mv (lk rfl)) rfl ?_
      refine Ops.u (Dtu.eql (lk rfl) (lk rfl)) rfl ?_
      refine Ops.e (Stp.store 3 Try.sizeOf29 (lk rfl) (lk rfl) rfl rfl rfl rfl rfl rfl rfl ?_)
      refine Ops.u (Dtu.asg (lk rfl)) rfl ?_
      refine Ops.nil ?_
      refine Then.next ?_
      refine Body.ret ?_
      exact ⟨.inr rfl, _, Loads.agg Try.isAgg29 Try.sizeOf29 (Rds.ow (m := 3) 3 rfl rfl) rfl, _, pk [1, 0] rfl, ra176, rc176, _, rfl, by rw [hr1, hr2, e]; rfl, by rw [← sh_del ok h, hr1, hr2]⟩
    · have e := erI_neg h
      have e2 : g.del oa ob n ⟨pt, fl, fg, bg⟩ = g := if_neg h
      by_cases hhs : g.has oa ob
      · have hd := decide_eq_true hhs
        have hn : ¬ 0 ≤ n := fun hn => h ⟨hhs, hn⟩
        refine Body.seq ?_
        refine Body.seq ?_
        refine Body.region ?_
        refine Ops.u (Dtu.fld fa41_0 (lk rfl)) rfl ?_
        refine Ops.d (Det.ld Try.isAgg3 (lk rfl) (Rd.ow 2 rfl rfl)) rfl ?_
        refine Ops.nil ?_
        refine Then.next ?_
        refine Body.block ?_
        refine Body.seq ?_
        refine Body.region ?_
        refine Ops.u (Dtu.eql (lk rfl) (lk rfl)) rfl ?_
        refine Ops.u (Dtu.asg (lk rfl)) rfl ?_
        refine Ops.nil ?_
        refine Then.next ?_
        refine Body.condP (lk rfl) (fun hy => absurd hy (by first | omega | assumption | decide)) (fun _ => ?_)
        refine Body.seq ?_
        refine Body.region ?_
        refine Ops.u (Dtu.eql (lk rfl) (lk rfl)) rfl ?_
        refine Ops.u (Dtu.asg (lk rfl)) rfl ?_
        refine Ops.nil ?_
        refine Then.next ?_
        refine Body.condP (lk rfl) (fun hy => absurd hy (by first | omega | assumption | decide)) (fun _ => ?_)
        refine Body.seq ?_
        refine Body.seq ?_
        refine Body.region ?_
        refine Ops.u (Dtu.eql (lk rfl) (lk rfl)) rfl ?_
        refine Ops.u (Dtu.asg (lk rfl)) rfl ?_
        refine Ops.nil ?_
        refine Then.next ?_
        refine Body.condP (lk rfl) (fun hy => absurd hy (by first | omega | assumption | decide)) (fun _ => ?_)
        refine Body.region ?_
        refine Ops.u (Dtu.eql (lk rfl) (lk rfl)) rfl ?_
        refine Ops.u (Dtu.asg (lk rfl)) rfl ?_
        refine Ops.nil ?_
        refine Then.next ?_
        refine Body.condP (lk rfl) (fun hy => absurd hy (by first | omega | assumption | decide)) (fun _ => ?_)
        refine Body.seq ?_
        refine Body.seq ?_
        refine Body.region ?_
        refine Ops.u (Dtu.eql (lk rfl) (lk rfl)) rfl ?_
        refine Ops.u (Dtu.asg (lk rfl)) rfl ?_
        refine Ops.nil ?_
        refine Then.next ?_
        refine Body.condP (lk rfl) (fun hy => absurd hy (by first | omega | assumption | decide)) (fun _ => ?_)
        refine Body.region ?_
        refine Ops.u (Dtu.eql (lk rfl) (lk rfl)) rfl ?_
        refine Ops.u (Dtu.asg (lk rfl)) rfl ?_
        refine Ops.nil ?_
        refine Then.next ?_
        refine Body.condP (lk rfl) (fun _ => ?_) (fun hn => absurd (by first | omega | assumption | decide) hn)
        refine Body.seq ?_
        refine Body.seq ?_
        refine Body.region ?_
        refine Ops.u (Dtu.fld fa41_0 (lk rfl)) rfl ?_
        refine Ops.d (Det.ld Try.isAgg3 (lk rfl) (Rd.ow 2 rfl rfl)) rfl ?_
        refine Ops.u (Dtu.eql (lk rfl) (lk rfl)) rfl ?_
        refine Ops.nil ?_
        refine Then.next ?_
        refine Body.condP (lk rfl) (fun hy => absurd hy (by first | omega | assumption | decide)) (fun _ => ?_)
        refine Body.region ?_
        refine Ops.u (Dtu.mv (lk rfl)) rfl ?_
        refine Ops.u (Dtu.fld fa41_1 (lk rfl)) rfl ?_
        refine Ops.d (Det.ld Try.isAgg3 (lk rfl) (Rd.ow 2 rfl rfl)) rfl ?_
        refine Ops.u (Dtu.fld fa41_2 (lk rfl)) rfl ?_
        refine Ops.d (Det.ld Try.isAgg3 (lk rfl) (Rd.ow 2 rfl rfl)) rfl ?_
        refine Ops.u (Dtu.fld fa41_3 (lk rfl)) rfl ?_
        refine Ops.d (Det.ld Try.isAgg3 (lk rfl) (Rd.ow 2 rfl rfl)) rfl ?_
        refine Ops.u (Dtu.fld fa41_4 (lk rfl)) rfl ?_
        refine Ops.d (Det.lda Try.isAgg39 Try.sizeOf39 (lk rfl) (Rds.ow (m := 4) 2 rfl rfl) rfl) rfl ?_
        refine Ops.s (Stp.callOwn [4] rfl rfl Try.call27 (lks rfl) (fun E' le hat => delete_g E' _ _ _ _ _ _ _ _ _) ?_) rfl
        rintro _ _ ⟨rfl, rfl⟩
        refine Ops.u (Dtu.asg (lk rfl)) rfl ?_
        refine Ops.nil ?_
        refine Then.next ?_
        refine Body.seq ?_
        refine Body.region ?_
        refine Ops.u (Dtu.asg (lk rfl)) rfl ?_
        refine Ops.nil ?_
        refine Then.next ?_
        refine Body.seq ?_
        refine Body.region ?_
        refine Ops.d (Det.lda Try.isAgg29 Try.sizeOf29 (lk rfl) (Rds.ow (m := 3) 4 rfl rfl) rfl) rfl ?_
        refine Ops.u (Dtu.fld fa41_1 (lk rfl)) rfl ?_
        refine Ops.d (Det.ld Try.isAgg3 (lk rfl) (Rd.ow 3 rfl rfl)) rfl ?_
        refine Ops.u (Dtu.fld fa41_2 (lk rfl)) rfl ?_
        refine Ops.d (Det.ld Try.isAgg3 (lk rfl) (Rd.ow 3 rfl rfl)) rfl ?_
        refine Ops.s (Stp.call rfl Try.call17 (lks rfl) (fun E' le hat => rhas_ok E' _ _ _ _ ⟨_, _, _, rfl⟩) ?_) rfl
        rintro _ _ ⟨rfl, rfl⟩
        refine Ops.u (Dtu.mv (lk rfl)) rfl ?_
        refine Ops.decP 164 rfl (fun _ => ?_) (fun hn => absurd (by first | omega | assumption | decide) hn)
        refine Ops.gu rfl rfl rfl (Dtu.fld fa41_3 (lk rfl)) rfl ?_
        refine Ops.gd rfl rfl rfl (Det.ld Try.isAgg3 (lk rfl) (Rd.ow 3 rfl rfl)) rfl ?_
        refine Ops.gu rfl rfl rfl (Dtu.geq (lk rfl) (lk rfl)) rfl ?_
        refine Ops.u (Dtu.pickT (lk rfl) (lk rfl)) rfl ?_
        refine Ops.nil ?_
        refine Then.next ?_
        refine Body.condP (lk rfl) (fun hy => absurd hy (by first | omega | assumption | decide)) (fun _ => ?_)
        refine Body.skip ?_
        refine Blk.norm ?_
        refine Then.next ?_
        refine Body.seq ?_
        refine Body.region ?_
        refine Ops.d (Det.lda Try.isAgg29 Try.sizeOf29 (lk rfl) (Rds.ow (m := 3) 4 rfl rfl) rfl) rfl ?_
        refine Ops.u (Dtu.mv (lk rfl)) rfl ?_
        refine Ops.u (Dtu.mv (lk rfl)) rfl ?_
        refine Ops.u (Dtu.eql (lk rfl) (lk rfl)) rfl ?_
        refine Ops.e (Stp.store 2 Try.sizeOf29 (lk rfl) (lk rfl) rfl rfl rfl rfl rfl rfl rfl ?_)
        refine Ops.u (Dtu.asg (lk rfl)) rfl ?_
        refine Ops.nil ?_
        refine Then.next ?_
        refine Body.ret ?_
        rw [e2]
        exact ⟨.inr rfl, _, Loads.agg Try.isAgg29 Try.sizeOf29 (Rds.ow (m := 3) 2 rfl rfl) rfl, _, pk [0, 4] rfl, a, m, g, rfl, by rw [e]; rfl, rfl⟩
      · have hd := decide_eq_false hhs
        refine Body.seq ?_
        refine Body.seq ?_
        refine Body.region ?_
        refine Ops.u (Dtu.fld fa41_0 (lk rfl)) rfl ?_
        refine Ops.d (Det.ld Try.isAgg3 (lk rfl) (Rd.ow 2 rfl rfl)) rfl ?_
        refine Ops.nil ?_
        refine Then.next ?_
        refine Body.block ?_
        refine Body.seq ?_
        refine Body.region ?_
        refine Ops.u (Dtu.eql (lk rfl) (lk rfl)) rfl ?_
        refine Ops.u (Dtu.asg (lk rfl)) rfl ?_
        refine Ops.nil ?_
        refine Then.next ?_
        refine Body.condP (lk rfl) (fun hy => absurd hy (by first | omega | assumption | decide)) (fun _ => ?_)
        refine Body.seq ?_
        refine Body.region ?_
        refine Ops.u (Dtu.eql (lk rfl) (lk rfl)) rfl ?_
        refine Ops.u (Dtu.asg (lk rfl)) rfl ?_
        refine Ops.nil ?_
        refine Then.next ?_
        refine Body.condP (lk rfl) (fun hy => absurd hy (by first | omega | assumption | decide)) (fun _ => ?_)
        refine Body.seq ?_
        refine Body.seq ?_
        refine Body.region ?_
        refine Ops.u (Dtu.eql (lk rfl) (lk rfl)) rfl ?_
        refine Ops.u (Dtu.asg (lk rfl)) rfl ?_
        refine Ops.nil ?_
        refine Then.next ?_
        refine Body.condP (lk rfl) (fun hy => absurd hy (by first | omega | assumption | decide)) (fun _ => ?_)
        refine Body.region ?_
        refine Ops.u (Dtu.eql (lk rfl) (lk rfl)) rfl ?_
        refine Ops.u (Dtu.asg (lk rfl)) rfl ?_
        refine Ops.nil ?_
        refine Then.next ?_
        refine Body.condP (lk rfl) (fun hy => absurd hy (by first | omega | assumption | decide)) (fun _ => ?_)
        refine Body.seq ?_
        refine Body.seq ?_
        refine Body.region ?_
        refine Ops.u (Dtu.eql (lk rfl) (lk rfl)) rfl ?_
        refine Ops.u (Dtu.asg (lk rfl)) rfl ?_
        refine Ops.nil ?_
        refine Then.next ?_
        refine Body.condP (lk rfl) (fun hy => absurd hy (by first | omega | assumption | decide)) (fun _ => ?_)
        refine Body.region ?_
        refine Ops.u (Dtu.eql (lk rfl) (lk rfl)) rfl ?_
        refine Ops.u (Dtu.asg (lk rfl)) rfl ?_
        refine Ops.nil ?_
        refine Then.next ?_
        refine Body.condP (lk rfl) (fun _ => ?_) (fun hn => absurd (by first | omega | assumption | decide) hn)
        refine Body.seq ?_
        refine Body.seq ?_
        refine Body.region ?_
        refine Ops.u (Dtu.fld fa41_0 (lk rfl)) rfl ?_
        refine Ops.d (Det.ld Try.isAgg3 (lk rfl) (Rd.ow 2 rfl rfl)) rfl ?_
        refine Ops.u (Dtu.eql (lk rfl) (lk rfl)) rfl ?_
        refine Ops.nil ?_
        refine Then.next ?_
        refine Body.condP (lk rfl) (fun hy => absurd hy (by first | omega | assumption | decide)) (fun _ => ?_)
        refine Body.region ?_
        refine Ops.u (Dtu.mv (lk rfl)) rfl ?_
        refine Ops.u (Dtu.fld fa41_1 (lk rfl)) rfl ?_
        refine Ops.d (Det.ld Try.isAgg3 (lk rfl) (Rd.ow 2 rfl rfl)) rfl ?_
        refine Ops.u (Dtu.fld fa41_2 (lk rfl)) rfl ?_
        refine Ops.d (Det.ld Try.isAgg3 (lk rfl) (Rd.ow 2 rfl rfl)) rfl ?_
        refine Ops.u (Dtu.fld fa41_3 (lk rfl)) rfl ?_
        refine Ops.d (Det.ld Try.isAgg3 (lk rfl) (Rd.ow 2 rfl rfl)) rfl ?_
        refine Ops.u (Dtu.fld fa41_4 (lk rfl)) rfl ?_
        refine Ops.d (Det.lda Try.isAgg39 Try.sizeOf39 (lk rfl) (Rds.ow (m := 4) 2 rfl rfl) rfl) rfl ?_
        refine Ops.s (Stp.callOwn [4] rfl rfl Try.call27 (lks rfl) (fun E' le hat => delete_g E' _ _ _ _ _ _ _ _ _) ?_) rfl
        rintro _ _ ⟨rfl, rfl⟩
        refine Ops.u (Dtu.asg (lk rfl)) rfl ?_
        refine Ops.nil ?_
        refine Then.next ?_
        refine Body.seq ?_
        refine Body.region ?_
        refine Ops.u (Dtu.asg (lk rfl)) rfl ?_
        refine Ops.nil ?_
        refine Then.next ?_
        refine Body.seq ?_
        refine Body.region ?_
        refine Ops.d (Det.lda Try.isAgg29 Try.sizeOf29 (lk rfl) (Rds.ow (m := 3) 4 rfl rfl) rfl) rfl ?_
        refine Ops.u (Dtu.fld fa41_1 (lk rfl)) rfl ?_
        refine Ops.d (Det.ld Try.isAgg3 (lk rfl) (Rd.ow 3 rfl rfl)) rfl ?_
        refine Ops.u (Dtu.fld fa41_2 (lk rfl)) rfl ?_
        refine Ops.d (Det.ld Try.isAgg3 (lk rfl) (Rd.ow 3 rfl rfl)) rfl ?_
        refine Ops.s (Stp.call rfl Try.call17 (lks rfl) (fun E' le hat => rhas_ok E' _ _ _ _ ⟨_, _, _, rfl⟩) ?_) rfl
        rintro _ _ ⟨rfl, rfl⟩
        refine Ops.u (Dtu.mv (lk rfl)) rfl ?_
        refine Ops.decP 164 rfl (fun hy => absurd hy (by first | omega | assumption | decide)) (fun _ => ?_)
        refine Ops.gn rfl rfl rfl rfl rfl ?_
        refine Ops.gn rfl rfl rfl rfl rfl ?_
        refine Ops.gn rfl rfl rfl rfl rfl ?_
        refine Ops.u (Dtu.pickF (lk rfl) (lk rfl)) rfl ?_
        refine Ops.nil ?_
        refine Then.next ?_
        refine Body.condF (lk rfl) ?_
        refine Body.skip ?_
        refine Blk.norm ?_
        refine Then.next ?_
        refine Body.seq ?_
        refine Body.region ?_
        refine Ops.d (Det.lda Try.isAgg29 Try.sizeOf29 (lk rfl) (Rds.ow (m := 3) 4 rfl rfl) rfl) rfl ?_
        refine Ops.u (Dtu.mv (lk rfl)) rfl ?_
        refine Ops.u (Dtu.mv (lk rfl)) rfl ?_
        refine Ops.u (Dtu.eql (lk rfl) (lk rfl)) rfl ?_
        refine Ops.e (Stp.store 2 Try.sizeOf29 (lk rfl) (lk rfl) rfl rfl rfl rfl rfl rfl rfl ?_)
        refine Ops.u (Dtu.asg (lk rfl)) rfl ?_
        refine Ops.nil ?_
        refine Then.next ?_
        refine Body.ret ?_
        rw [e2]
        exact ⟨.inr rfl, _, Loads.agg Try.isAgg29 Try.sizeOf29 (Rds.ow (m := 3) 2 rfl rfl) rfl, _, pk [0, 4] rfl, a, m, g, rfl, by rw [e]; rfl, rfl⟩
  by_cases k6 : k = 6
  · subst k6
    have hg : g.op ⟨6, oa, ob, n, ⟨pt, fl, fg, bg⟩⟩ = g.rsz oa ob ⟨pt, fl, fg, bg⟩ := rfl
    rw [hg]
    cases h : fitsG oa ob
    · have e2 : g.rsz oa ob ⟨pt, fl, fg, bg⟩ = g := by rw [Gd.rsz, h]; rfl
      have e : erI (fitsG oa ob = true) = 1 := by rw [h]; rfl
      refine Body.seq ?_
      refine Body.seq ?_
      refine Body.region ?_
      refine Ops.u (Dtu.fld fa41_0 (lk rfl)) rfl ?_
      refine Ops.d (Det.ld Try.isAgg3 (lk rfl) (Rd.ow 2 rfl rfl)) rfl ?_
      refine Ops.nil ?_
      refine Then.next ?_
      refine Body.block ?_
      refine Body.seq ?_
      refine Body.region ?_
      refine Ops.u (Dtu.eql (lk rfl) (lk rfl)) rfl ?_
      refine Ops.u (Dtu.asg (lk rfl)) rfl ?_
      refine Ops.nil ?_
      refine Then.next ?_
      refine Body.condP (lk rfl) (fun hy => absurd hy (by first | omega | assumption | decide)) (fun _ => ?_)
      refine Body.seq ?_
      refine Body.region ?_
      refine Ops.u (Dtu.eql (lk rfl) (lk rfl)) rfl ?_
      refine Ops.u (Dtu.asg (lk rfl)) rfl ?_
      refine Ops.nil ?_
      refine Then.next ?_
      refine Body.condP (lk rfl) (fun hy => absurd hy (by first | omega | assumption | decide)) (fun _ => ?_)
      refine Body.seq ?_
      refine Body.seq ?_
      refine Body.region ?_
      refine Ops.u (Dtu.eql (lk rfl) (lk rfl)) rfl ?_
      refine Ops.u (Dtu.asg (lk rfl)) rfl ?_
      refine Ops.nil ?_
      refine Then.next ?_
      refine Body.condP (lk rfl) (fun hy => absurd hy (by first | omega | assumption | decide)) (fun _ => ?_)
      refine Body.region ?_
      refine Ops.u (Dtu.eql (lk rfl) (lk rfl)) rfl ?_
      refine Ops.u (Dtu.asg (lk rfl)) rfl ?_
      refine Ops.nil ?_
      refine Then.next ?_
      refine Body.condP (lk rfl) (fun hy => absurd hy (by first | omega | assumption | decide)) (fun _ => ?_)
      refine Body.seq ?_
      refine Body.seq ?_
      refine Body.region ?_
      refine Ops.u (Dtu.eql (lk rfl) (lk rfl)) rfl ?_
      refine Ops.u (Dtu.asg (lk rfl)) rfl ?_
      refine Ops.nil ?_
      refine Then.next ?_
      refine Body.condP (lk rfl) (fun hy => absurd hy (by first | omega | assumption | decide)) (fun _ => ?_)
      refine Body.region ?_
      refine Ops.u (Dtu.eql (lk rfl) (lk rfl)) rfl ?_
      refine Ops.u (Dtu.asg (lk rfl)) rfl ?_
      refine Ops.nil ?_
      refine Then.next ?_
      refine Body.condP (lk rfl) (fun hy => absurd hy (by first | omega | assumption | decide)) (fun _ => ?_)
      refine Body.seq ?_
      refine Body.region ?_
      refine Ops.u (Dtu.eql (lk rfl) (lk rfl)) rfl ?_
      refine Ops.u (Dtu.asg (lk rfl)) rfl ?_
      refine Ops.nil ?_
      refine Then.next ?_
      refine Body.condP (lk rfl) (fun _ => ?_) (fun hn => absurd (by first | omega | assumption | decide) hn)
      refine Body.seq ?_
      refine Body.region ?_
      refine Ops.u (Dtu.mv (lk rfl)) rfl ?_
      refine Ops.u (Dtu.fld fa41_1 (lk rfl)) rfl ?_
      refine Ops.d (Det.ld Try.isAgg3 (lk rfl) (Rd.ow 2 rfl rfl)) rfl ?_
      refine Ops.u (Dtu.fld fa41_2 (lk rfl)) rfl ?_
      refine Ops.d (Det.ld Try.isAgg3 (lk rfl) (Rd.ow 2 rfl rfl)) rfl ?_
      refine Ops.u (Dtu.fld fa41_4 (lk rfl)) rfl ?_
      refine Ops.d (Det.lda Try.isAgg39 Try.sizeOf39 (lk rfl) (Rds.ow (m := 4) 2 rfl rfl) rfl) rfl ?_
      refine Ops.s (Stp.callOwn [4] rfl rfl Try.call31 (lks rfl) (fun E' le hat => resize_g E' _ _ _ _ _ _ _ _) ?_) rfl
      rintro _ _ ⟨rfl, rfl⟩
      refine Ops.u (Dtu.asg (lk rfl)) rfl ?_
      refine Ops.nil ?_
      refine Then.next ?_
      refine Body.region ?_
      refine Ops.d (Det.lda Try.isAgg29 Try.sizeOf29 (lk rfl) (Rds.ow (m := 3) 4 rfl rfl) rfl) rfl ?_
      refine Ops.u (Dtu.fld fa41_1 (lk rfl)) rfl ?_
      refine Ops.d (Det.ld Try.isAgg3 (lk rfl) (Rd.ow 3 rfl rfl)) rfl ?_
      refine Ops.u (Dtu.fld fa41_2 (lk rfl)) rfl ?_
      refine Ops.d (Det.ld Try.isAgg3 (lk rfl) (Rd.ow 3 rfl rfl)) rfl ?_
      refine Ops.d (Det.lda Try.isAgg49 Try.sizeOf49 (lk rfl) (Rds.ow (m := 11) 1 rfl rfl) rfl) rfl ?_
      refine Ops.s (Stp.call rfl Try.call79 (lks rfl) (fun E' le hat => rresize_no E' _ _ _ _ _ (by first | assumption | omega) ⟨_, _, _, rfl⟩) ?_) rfl
      rintro _ _ ⟨rfl, rfl⟩
      refine Ops.u (Dtu.mv (lk rfl)) rfl ?_
      refine Ops.u (Dtu.ext (lk rfl) rfl) rfl ?_
      refine Ops.u (Dtu.ext (lk rfl) rfl) rfl ?_
      refine Ops.e (Stp.store 4 Try.sizeOf29 (lk rfl) (lk rfl) rfl rfl rfl rfl rfl rfl rfl ?_)
      refine Ops.u (Dtu.asg (lk rfl)) rfl ?_
      refine Ops.nil ?_
      refine Blk.norm ?_
      refine Then.next ?_
      refine Body.seq ?_
      refine Body.region ?_
      refine Ops.d (Det.lda Try.isAgg29 Try.sizeOf29 (lk rfl) (Rds.ow (m := 3) 4 rfl rfl) rfl) rfl ?_
      refine Ops.u (Dtu.mv (lk rfl)) rfl ?_
      refine Ops.u (Dtu.mv (lk rfl)) rfl ?_
      refine Ops.u (Dtu.eql (lk rfl) (lk rfl)) rfl ?_
      refine Ops.e (Stp.store 2 Try.sizeOf29 (lk rfl) (lk rfl) rfl rfl rfl rfl rfl rfl rfl ?_)
      refine Ops.u (Dtu.asg (lk rfl)) rfl ?_
      refine Ops.nil ?_
      refine Then.next ?_
      refine Body.ret ?_
      rw [e2]
      exact ⟨.inr rfl, _, Loads.agg Try.isAgg29 Try.sizeOf29 (Rds.ow (m := 3) 2 rfl rfl) rfl, _, pk [0, 4] rfl, a, m, g, rfl, by rw [e]; rfl, rfl⟩
    · have hb : 1 ≤ oa ∧ oa ≤ 12 ∧ 1 ≤ ob ∧ ob ≤ 40 := by simpa [fitsG] using h
      have e : erI (fitsG oa ob = true) = 0 := by rw [h]; rfl
      have hr1 : (g.rsz oa ob ⟨pt, fl, fg, bg⟩).r = oa.toNat := by rw [Gd.rsz, h]; rfl
      have hr2 : (g.rsz oa ob ⟨pt, fl, fg, bg⟩).c = ob.toNat := by rw [Gd.rsz, h]; rfl
      have hi1 : ((oa.toNat : Nat) : Int) = oa := by omega
      have hi2 : ((ob.toNat : Nat) : Int) = ob := by omega
      refine Body.seq ?_
      refine Body.seq ?_
      refine Body.region ?_
      refine Ops.u (Dtu.fld fa41_0 (lk rfl)) rfl ?_
      refine Ops.d (Det.ld Try.isAgg3 (lk rfl) (Rd.ow 2 rfl rfl)) rfl ?_
      refine Ops.nil ?_
      refine Then.next ?_
      refine Body.block ?_
      refine Body.seq ?_
      refine Body.region ?_
      refine Ops.u (Dtu.eql (lk rfl) (lk rfl)) rfl ?_
      refine Ops.u (Dtu.asg (lk rfl)) rfl ?_
      refine Ops.nil ?_
      refine Then.next ?_
      refine Body.condP (lk rfl) (fun hy => absurd hy (by first | omega | assumption | decide)) (fun _ => ?_)
      refine Body.seq ?_
      refine Body.region ?_
      refine Ops.u (Dtu.eql (lk rfl) (lk rfl)) rfl ?_
      refine Ops.u (Dtu.asg (lk rfl)) rfl ?_
      refine Ops.nil ?_
      refine Then.next ?_
      refine Body.condP (lk rfl) (fun hy => absurd hy (by first | omega | assumption | decide)) (fun _ => ?_)
      refine Body.seq ?_
      refine Body.seq ?_
      refine Body.region ?_
      refine Ops.u (Dtu.eql (lk rfl) (lk rfl)) rfl ?_
      refine Ops.u (Dtu.asg (lk rfl)) rfl ?_
      refine Ops.nil ?_
      refine Then.next ?_
      refine Body.condP (lk rfl) (fun hy => absurd hy (by first | omega | assumption | decide)) (fun _ => ?_)
      refine Body.region ?_
      refine Ops.u (Dtu.eql (lk rfl) (lk rfl)) rfl ?_
      refine Ops.u (Dtu.asg (lk rfl)) rfl ?_
      refine Ops.nil ?_
      refine Then.next ?_
      refine Body.condP (lk rfl) (fun hy => absurd hy (by first | omega | assumption | decide)) (fun _ => ?_)
      refine Body.seq ?_
      refine Body.seq ?_
      refine Body.region ?_
      refine Ops.u (Dtu.eql (lk rfl) (lk rfl)) rfl ?_
      refine Ops.u (Dtu.asg (lk rfl)) rfl ?_
      refine Ops.nil ?_
      refine Then.next ?_
      refine Body.condP (lk rfl) (fun hy => absurd hy (by first | omega | assumption | decide)) (fun _ => ?_)
      refine Body.region ?_
      refine Ops.u (Dtu.eql (lk rfl) (lk rfl)) rfl ?_
      refine Ops.u (Dtu.asg (lk rfl)) rfl ?_
      refine Ops.nil ?_
      refine Then.next ?_
      refine Body.condP (lk rfl) (fun hy => absurd hy (by first | omega | assumption | decide)) (fun _ => ?_)
      refine Body.seq ?_
      refine Body.region ?_
      refine Ops.u (Dtu.eql (lk rfl) (lk rfl)) rfl ?_
      refine Ops.u (Dtu.asg (lk rfl)) rfl ?_
      refine Ops.nil ?_
      refine Then.next ?_
      refine Body.condP (lk rfl) (fun _ => ?_) (fun hn => absurd (by first | omega | assumption | decide) hn)
      refine Body.seq ?_
      refine Body.region ?_
      refine Ops.u (Dtu.mv (lk rfl)) rfl ?_
      refine Ops.u (Dtu.fld fa41_1 (lk rfl)) rfl ?_
      refine Ops.d (Det.ld Try.isAgg3 (lk rfl) (Rd.ow 2 rfl rfl)) rfl ?_
      refine Ops.u (Dtu.fld fa41_2 (lk rfl)) rfl ?_
      refine Ops.d (Det.ld Try.isAgg3 (lk rfl) (Rd.ow 2 rfl rfl)) rfl ?_
      refine Ops.u (Dtu.fld fa41_4 (lk rfl)) rfl ?_
      refine Ops.d (Det.lda Try.isAgg39 Try.sizeOf39 (lk rfl) (Rds.ow (m := 4) 2 rfl rfl) rfl) rfl ?_
      refine Ops.s (Stp.callOwn [4] rfl rfl Try.call31 (lks rfl) (fun E' le hat => resize_g E' _ _ _ _ _ _ _ _) ?_) rfl
      rintro _ _ ⟨rfl, rfl⟩
      refine Ops.u (Dtu.asg (lk rfl)) rfl ?_
      refine Ops.nil ?_
      refine Then.next ?_
      refine Body.region ?_
      refine Ops.d (Det.lda Try.isAgg29 Try.sizeOf29 (lk rfl) (Rds.ow (m := 3) 4 rfl rfl) rfl) rfl ?_
      refine Ops.u (Dtu.fld fa41_1 (lk rfl)) rfl ?_
      refine Ops.d (Det.ld Try.isAgg3 (lk rfl) (Rd.ow 3 rfl rfl)) rfl ?_
      refine Ops.u (Dtu.fld fa41_2 (lk rfl)) rfl ?_
      refine Ops.d (Det.ld Try.isAgg3 (lk rfl) (Rd.ow 3 rfl rfl)) rfl ?_
      refine Ops.d (Det.lda Try.isAgg49 Try.sizeOf49 (lk rfl) (Rds.ow (m := 11) 1 rfl rfl) rfl) rfl ?_
      refine Ops.s (Stp.call rfl Try.call79 (lks rfl) (fun E' le hat => rresize_ok E' _ _ _ _ _ _ _ _ (by first | assumption | omega) (by first | assumption | omega) (by first | exact Sl.mono (by assumption) le | exact Sl.at (hat _ (.head _)) | exact Sl.at (hat _ (.tail _ (.head _))) | exact Sl.at (hat _ (.tail _ (.tail _ (.head _)))) | exact Sl.at (hat _ (.tail _ (.tail _ (.tail _ (.head _))))) | exact Sl.at (hat _ (.tail _ (.tail _ (.tail _ (.tail _ (.head _)))))) | exact Sl.at (hat _ (.tail _ (.tail _ (.tail _ (.tail _ (.tail _ (.head _))))))))) ?_) rfl
      rintro _ _ ⟨ra194, rc194, rfl, rfl⟩
      refine Ops.u (Dtu.mv (lk rfl)) rfl ?_
      refine Ops.u (Dtu.ext (lk rfl) rfl) rfl ?_
      refine Ops.u (Dtu.ext (lk rfl) rfl) rfl ?_
      refine Ops.e (Stp.store 5 Try.sizeOf29 (lk rfl) (lk rfl) rfl rfl rfl rfl rfl rfl rfl ?_)
      refine Ops.u (Dtu.asg (lk rfl)) rfl ?_
      refine Ops.nil ?_
      refine Blk.norm ?_
      refine Then.next ?_
      refine Body.seq ?_
      refine Body.region ?_
      refine Ops.d (Det.lda Try.isAgg29 Try.sizeOf29 (lk rfl) (Rds.ow (m := 3) 5 rfl rfl) rfl) rfl ?_
      refine Ops.u (Dtu.mv (lk rfl)) rfl ?_
      refine Ops.u (Dtu.mv (lk rfl)) rfl ?_
      refine Ops.u (Dtu.eql (lk rfl) (lk rfl)) rfl ?_
      refine Ops.e (Stp.store 3 Try.sizeOf29 (lk rfl) (lk rfl) rfl rfl rfl rfl rfl rfl rfl ?_)
      refine Ops.u (Dtu.asg (lk rfl)) rfl ?_
      refine Ops.nil ?_
      refine Then.next ?_
      refine Body.ret ?_
      exact ⟨.inr rfl, _, Loads.agg Try.isAgg29 Try.sizeOf29 (Rds.ow (m := 3) 3 rfl rfl) rfl, _, pk [1, 0] rfl, ra194, rc194, _, rfl, by rw [hr1, hr2, e, hi1, hi2]; rfl, by rw [hr1, hr2]⟩
  · have hg : g.op ⟨k, oa, ob, n, ⟨pt, fl, fg, bg⟩⟩ = g := by unfold Gd.op; simp only [k0, k1, k2, k3, k4, k5, k6, if_false]
    rw [hg]
    refine Body.seq ?_
    refine Body.seq ?_
    refine Body.region ?_
    refine Ops.u (Dtu.fld fa41_0 (lk rfl)) rfl ?_
    refine Ops.d (Det.ld Try.isAgg3 (lk rfl) (Rd.ow 2 rfl rfl)) rfl ?_
    refine Ops.nil ?_
    refine Then.next ?_
    refine Body.block ?_
    refine Body.seq ?_
    refine Body.region ?_
    refine Ops.u (Dtu.eql (lk rfl) (lk rfl)) rfl ?_
    refine Ops.u (Dtu.asg (lk rfl)) rfl ?_
    refine Ops.nil ?_
    refine Then.next ?_
    refine Body.condP (lk rfl) (fun hy => absurd hy (by first | omega | assumption | decide)) (fun _ => ?_)
    refine Body.seq ?_
    refine Body.region ?_
    refine Ops.u (Dtu.eql (lk rfl) (lk rfl)) rfl ?_
    refine Ops.u (Dtu.asg (lk rfl)) rfl ?_
    refine Ops.nil ?_
    refine Then.next ?_
    refine Body.condP (lk rfl) (fun hy => absurd hy (by first | omega | assumption | decide)) (fun _ => ?_)
    refine Body.seq ?_
    refine Body.seq ?_
    refine Body.region ?_
    refine Ops.u (Dtu.eql (lk rfl) (lk rfl)) rfl ?_
    refine Ops.u (Dtu.asg (lk rfl)) rfl ?_
    refine Ops.nil ?_
    refine Then.next ?_
    refine Body.condP (lk rfl) (fun hy => absurd hy (by first | omega | assumption | decide)) (fun _ => ?_)
    refine Body.region ?_
    refine Ops.u (Dtu.eql (lk rfl) (lk rfl)) rfl ?_
    refine Ops.u (Dtu.asg (lk rfl)) rfl ?_
    refine Ops.nil ?_
    refine Then.next ?_
    refine Body.condP (lk rfl) (fun hy => absurd hy (by first | omega | assumption | decide)) (fun _ => ?_)
    refine Body.seq ?_
    refine Body.seq ?_
    refine Body.region ?_
    refine Ops.u (Dtu.eql (lk rfl) (lk rfl)) rfl ?_
    refine Ops.u (Dtu.asg (lk rfl)) rfl ?_
    refine Ops.nil ?_
    refine Then.next ?_
    refine Body.condP (lk rfl) (fun hy => absurd hy (by first | omega | assumption | decide)) (fun _ => ?_)
    refine Body.region ?_
    refine Ops.u (Dtu.eql (lk rfl) (lk rfl)) rfl ?_
    refine Ops.u (Dtu.asg (lk rfl)) rfl ?_
    refine Ops.nil ?_
    refine Then.next ?_
    refine Body.condP (lk rfl) (fun hy => absurd hy (by first | omega | assumption | decide)) (fun _ => ?_)
    refine Body.seq ?_
    refine Body.region ?_
    refine Ops.u (Dtu.eql (lk rfl) (lk rfl)) rfl ?_
    refine Ops.u (Dtu.asg (lk rfl)) rfl ?_
    refine Ops.nil ?_
    refine Then.next ?_
    refine Body.condP (lk rfl) (fun hy => absurd hy (by first | omega | assumption | decide)) (fun _ => ?_)
    refine Body.skip ?_
    refine Blk.norm ?_
    refine Then.next ?_
    refine Body.seq ?_
    refine Body.region ?_
    refine Ops.d (Det.lda Try.isAgg29 Try.sizeOf29 (lk rfl) (Rds.ow (m := 3) 3 rfl rfl) rfl) rfl ?_
    refine Ops.u (Dtu.mv (lk rfl)) rfl ?_
    refine Ops.u (Dtu.mv (lk rfl)) rfl ?_
    refine Ops.u (Dtu.eql (lk rfl) (lk rfl)) rfl ?_
    refine Ops.e (Stp.store 1 Try.sizeOf29 (lk rfl) (lk rfl) rfl rfl rfl rfl rfl rfl rfl ?_)
    refine Ops.u (Dtu.asg (lk rfl)) rfl ?_
    refine Ops.nil ?_
    refine Then.next ?_
    refine Body.ret ?_
    exact ⟨.inr rfl, _, Loads.agg Try.isAgg29 Try.sizeOf29 (Rds.ow (m := 3) 1 rfl rfl) rfl, _, pk [4, 4] rfl, a, m, g, rfl, rfl, rfl⟩
end Go.Proofs.Ytpmapedhigjalaa
end
section
/- GridLives: the walk. -/
namespace Go.Proofs.Ytpmapedhigjalaa
set_option maxRecDepth 100000
set_option maxHeartbeats 4000000
set_option linter.unusedVariables false
set_option linter.unusedSimpArgs false
open Go.Sx

theorem Gd.op_ok {g : Gd} (ok : g.Ok) (o : GOp) : (g.op o).Ok := by
  unfold Gd.op
  repeat' split
  all_goals first | exact ok | skip
  · unfold Gd.put; split <;> exact ⟨ok.r, ok.c⟩
  · unfold Gd.fill; split <;> exact ⟨ok.r, ok.c⟩
  · unfold Gd.up; split <;> exact ⟨ok.r, ok.c⟩
  · unfold Gd.down; split <;> exact ⟨ok.r, ok.c⟩
  · unfold Gd.ins; split <;> exact ⟨ok.r, ok.c⟩
  · unfold Gd.del; split <;> exact ⟨ok.r, ok.c⟩
  · unfold Gd.rsz; split
    · rename_i h
      have hb : 1 ≤ o.a ∧ o.a ≤ 12 ∧ 1 ≤ o.b ∧ o.b ≤ 40 := by simpa [fitsG] using h
      exact ⟨by dsimp only; omega, by dsimp only; omega⟩
    · exact ⟨ok.r, ok.c⟩
theorem Gd.op_in {g : Gd} (h : g.In) (o : GOp) (ho : o.c.In) : (g.op o).In := by
  unfold Gd.op
  repeat' split
  all_goals first | exact h | skip
  · unfold Gd.put; split
    · intro i k; dsimp only; split <;> first | exact ho | exact h _ _
    · exact h
  · unfold Gd.fill; split
    · intro i k; dsimp only; split <;> first | exact ho | exact h _ _
    · exact h
  · unfold Gd.up; split
    · intro i k; dsimp only; repeat' split
      all_goals first | exact ho | exact h _ _
    · exact h
  · unfold Gd.down; split
    · intro i k; dsimp only; repeat' split
      all_goals first | exact ho | exact h _ _
    · exact h
  · unfold Gd.ins; split
    · intro i k; dsimp only; repeat' split
      all_goals first | exact ho | exact h _ _
    · exact h
  · unfold Gd.del; split
    · intro i k; dsimp only; repeat' split
      all_goals first | exact ho | exact h _ _
    · exact h
  · unfold Gd.rsz; split
    · intro i k; dsimp only; split <;> first | exact ho | exact h _ _
    · exact h
theorem Gd.new_in (rows cols : Int) : (Gd.new rows cols).In := fun _ _ => (by unfold Cell.In; decide : Cell.blank.In)
theorem new_flat (rows cols : Int) : (Gd.new rows cols).flat = List.replicate (rows.toNat * cols.toNat) Cell.blank := by
  refine (List.eq_replicate_iff.2 ⟨flat_len' _, fun y hy => ?_⟩)
  obtain ⟨j, _, rfl⟩ := List.mem_map.1 hy; rfl
theorem rnew_g (E : Env) (rows cols : Int) (hf : fitsG rows cols = true) : Does Try.prog 13 #[.int .i64 rows, .int .i64 cols] E ([]) fun r H' => ∃ a c, r = .tuple #[.agg #[.int .i64 (Gd.new rows cols).r, .int .i64 (Gd.new rows cols).c, .slice a ((Gd.new rows cols).r * (Gd.new rows cols).c) c], .int .i64 0] ∧ H' = [osl 49 11 (.slice a ((Gd.new rows cols).r * (Gd.new rows cols).c) c) ((Gd.new rows cols).r * (Gd.new rows cols).c) ((Gd.new rows cols).flat.flatMap Cell.renc)] := by
  have hb : 1 ≤ rows ∧ rows ≤ 12 ∧ 1 ≤ cols ∧ cols ≤ 40 := by simpa [fitsG] using hf
  refine (rnew_ok E rows cols hf).mono ?_
  rintro r H' ⟨a, c, rfl, rfl⟩
  refine ⟨a, c, ?_, ?_⟩
  · rw [show (((Gd.new rows cols).r : Nat) : Int) = rows by dsimp only [Gd.new]; omega, show (((Gd.new rows cols).c : Nat) : Int) = cols by dsimp only [Gd.new]; omega]; rfl
  · rw [new_flat]; rfl
theorem at_y (E : Env) (b : Nat) (g : Gd) (row col : Int) (h : g.has row col) : Does Try.prog 16 #[.pointer (some ⟨b, 0, none⟩), .int .i64 row, .int .i64 col] E ([gridP b g]) fun r H' => r = .tuple #[.agg (g.f row.toNat col.toNat).enc.toArray, .int .i64 0] ∧ H' = [gridP b g] := by
  have := at_g E b g row col
  rwa [Gd.atV, if_pos h] at this
theorem at_n (E : Env) (b : Nat) (g : Gd) (row col : Int) (h : ¬ g.has row col) : Does Try.prog 16 #[.pointer (some ⟨b, 0, none⟩), .int .i64 row, .int .i64 col] E ([gridP b g]) fun r H' => r = .tuple #[.agg #[.int .i32 0, .int .u8 0, .int .u32 0, .int .u32 0], .int .i64 1] ∧ H' = [gridP b g] := by
  have := at_g E b g row col
  rwa [Gd.atV, if_neg h] at this
theorem rat_g (E : Env) (g : Gd) (v : Value) (row col : Int) (ok : g.Ok) (hh : g.has row col) (hL : Sl E [] 11 v (g.r * g.c) (g.flat.flatMap Cell.renc)) : Does Try.prog 19 #[.agg #[.int .i64 g.r, .int .i64 g.c, v], .int .i64 row, .int .i64 col] E ([]) fun r H' => r = .agg (g.f row.toNat col.toNat).renc.toArray ∧ H' = [] := by
  obtain ⟨h1, h2, h3, h4⟩ := hh
  obtain ⟨i, rfl⟩ := Int.eq_ofNat_of_zero_le h1
  obtain ⟨k, rfl⟩ := Int.eq_ofNat_of_zero_le h3
  have := rat_ok E g v i k ok (by omega) (by omega) hL
  rwa [flat_rc (by omega) (by omega)] at this
theorem rhas_g (E : Env) (g : Gd) (v : Value) (row col : Int) (hs : IsSl v) : Does Try.prog 17 #[.agg #[.int .i64 g.r, .int .i64 g.c, v], .int .i64 row, .int .i64 col] E ([]) fun r H' => r = .bool (decide (g.has row col)) ∧ H' = [] := by
  exact rhas_ok E g v row col hs
structure GLv where
  i : Nat
  g : Gd
  a : Option Addr
  c : Nat
theorem lives17_ok (E : Env) (rows cols : Int) (v : Value) (ops : List GOp) (hin : ∀ o ∈ ops, o.c.In) (hv : Sl E [] 8 v ops.length (ops.flatMap GOp.enc)) : Does Try.prog 3 #[.int .i64 rows, .int .i64 cols, v] E ([]) fun r H' => r = .bool true ∧ H' = [] := by
  refine Does.pure hv.len fun hlen => ?_
  cases hf : fitsG rows cols
  · refine Does.go _ _ Try.func3 rfl Try.ntmps3 rfl rfl ?_
    refine Body.seq ?_
    refine Body.region ?_
    refine Ops.u (Dtu.asg (lk rfl)) rfl ?_
    refine Ops.nil ?_
    refine Then.next ?_
    refine Body.seq ?_
    refine Body.region ?_
    refine Ops.u (Dtu.mv (lk rfl)) rfl ?_
    refine Ops.u (Dtu.mv (lk rfl)) rfl ?_
    refine Ops.s (Stp.call rfl Try.call12 (lks rfl) (fun E' le hat => gnew_no E' _ _ (by assumption)) ?_) rfl
    rintro _ _ ⟨rfl, rfl⟩
    refine Ops.u (Dtu.mv (lk rfl)) rfl ?_
    refine Ops.u (Dtu.ext (lk rfl) rfl) rfl ?_
    refine Ops.u (Dtu.ext (lk rfl) rfl) rfl ?_
    refine Ops.u (Dtu.asg (lk rfl)) rfl ?_
    refine Ops.u (Dtu.asg (lk rfl)) rfl ?_
    refine Ops.nil ?_
    refine Then.next ?_
    refine Body.seq ?_
    refine Body.region ?_
    refine Ops.u (Dtu.mv (lk rfl)) rfl ?_
    refine Ops.u (Dtu.mv (lk rfl)) rfl ?_
    refine Ops.s (Stp.call rfl Try.call13 (lks rfl) (fun E' le hat => rnew_no E' _ _ (by first | assumption | omega)) ?_) rfl
    rintro _ _ ⟨rfl, rfl⟩
    refine Ops.u (Dtu.mv (lk rfl)) rfl ?_
    refine Ops.u (Dtu.ext (lk rfl) rfl) rfl ?_
    refine Ops.u (Dtu.ext (lk rfl) rfl) rfl ?_
    refine Ops.s (Stp.alloc ty29 (fun b9 => ?_)) rfl
    refine Ops.e (Stp.store 0 Try.sizeOf29 (lk rfl) (lk rfl) rfl rfl rfl rfl rfl rfl rfl ?_)
    refine Ops.u (Dtu.asg (lk rfl)) rfl ?_
    refine Ops.nil ?_
    refine Then.next ?_
    refine Body.seq ?_
    refine Body.seq ?_
    refine Body.region ?_
    refine Ops.u (Dtu.mv (lk rfl)) rfl ?_
    refine Ops.u (Dtu.mv (lk rfl)) rfl ?_
    refine Ops.u (Dtu.neq (lk rfl) (lk rfl)) rfl ?_
    refine Ops.u (Dtu.mv (lk rfl)) rfl ?_
    refine Ops.decP 30 rfl (fun hy => absurd hy (by first | omega | assumption | decide)) (fun _ => ?_)
    refine Ops.gu rfl rfl rfl (Dtu.mv (lk rfl)) rfl ?_
    refine Ops.gu rfl rfl rfl (Dtu.eqNil Try.underlying23 (lk rfl) (lk rfl)) rfl ?_
    refine Ops.gu rfl rfl rfl (Dtu.mv (lk rfl)) rfl ?_
    refine Ops.gu rfl rfl rfl (Dtu.neq (lk rfl) (lk rfl)) rfl ?_
    refine Ops.gu rfl rfl rfl (Dtu.neB Try.underlying4 (lk rfl) (lk rfl)) rfl ?_
    refine Ops.u (Dtu.pickF (lk rfl) (lk rfl)) rfl ?_
    refine Ops.nil ?_
    refine Then.next ?_
    refine Body.condP (lk rfl) (fun hy => absurd hy (nbneOf rfl (decide_eq_true (by first | omega | assumption | decide)) rfl)) (fun _ => ?_)
    refine Body.skip ?_
    refine Then.next ?_
    refine Body.seq ?_
    refine Body.seq ?_
    refine Body.region ?_
    refine Ops.u (Dtu.mv (lk rfl)) rfl ?_
    refine Ops.u (Dtu.neq (lk rfl) (lk rfl)) rfl ?_
    refine Ops.nil ?_
    refine Then.next ?_
    refine Body.condP (lk rfl) (fun _ => ?_) (fun hn => absurd (by first | omega | assumption | decide) hn)
    refine Body.seq ?_
    refine Body.region ?_
    refine Ops.s (Stp.call rfl Try.call14 (lks rfl) (fun E' le hat => alive17_ok E') ?_) rfl
    rintro _ _ ⟨rfl, rfl⟩
    refine Ops.u (Dtu.asg (lk rfl)) rfl ?_
    refine Ops.nil ?_
    refine Then.next ?_
    refine Body.ret ?_
    refine Then.ret ?_
    exact ⟨.inr rfl, _, pk [] rfl, rfl, rfl⟩
  · refine Does.go _ _ Try.func3 rfl Try.ntmps3 rfl rfl ?_
    refine Body.seq ?_
    refine Body.region ?_
    refine Ops.u (Dtu.asg (lk rfl)) rfl ?_
    refine Ops.nil ?_
    refine Then.next ?_
    refine Body.seq ?_
    refine Body.region ?_
    refine Ops.u (Dtu.mv (lk rfl)) rfl ?_
    refine Ops.u (Dtu.mv (lk rfl)) rfl ?_
    refine Ops.s (Stp.call rfl Try.call12 (lks rfl) (fun E' le hat => new_g E' _ _ (by first | assumption | omega)) ?_) rfl
    rintro _ _ ⟨nb18, rfl, rfl⟩
    refine Ops.u (Dtu.mv (lk rfl)) rfl ?_
    refine Ops.u (Dtu.ext (lk rfl) rfl) rfl ?_
    refine Ops.u (Dtu.ext (lk rfl) rfl) rfl ?_
    refine Ops.u (Dtu.asg (lk rfl)) rfl ?_
    refine Ops.u (Dtu.asg (lk rfl)) rfl ?_
    refine Ops.nil ?_
    refine Then.next ?_
    refine Body.seq ?_
    refine Body.region ?_
    refine Ops.u (Dtu.mv (lk rfl)) rfl ?_
    refine Ops.u (Dtu.mv (lk rfl)) rfl ?_
    refine Ops.s (Stp.call rfl Try.call13 (lks rfl) (fun E' le hat => rnew_g E' _ _ (by first | assumption | omega)) ?_) rfl
    rintro _ _ ⟨ra24, rc24, rfl, rfl⟩
    refine Ops.u (Dtu.mv (lk rfl)) rfl ?_
    refine Ops.u (Dtu.ext (lk rfl) rfl) rfl ?_
    refine Ops.u (Dtu.ext (lk rfl) rfl) rfl ?_
    refine Ops.s (Stp.alloc ty29 (fun b9 => ?_)) rfl
    refine Ops.e (Stp.store 0 Try.sizeOf29 (lk rfl) (lk rfl) rfl rfl rfl rfl rfl rfl rfl ?_)
    refine Ops.u (Dtu.asg (lk rfl)) rfl ?_
    refine Ops.nil ?_
    refine Then.next ?_
    refine Body.seq ?_
    refine Body.seq ?_
    refine Body.region ?_
    refine Ops.u (Dtu.mv (lk rfl)) rfl ?_
    refine Ops.u (Dtu.mv (lk rfl)) rfl ?_
    refine Ops.u (Dtu.neq (lk rfl) (lk rfl)) rfl ?_
    refine Ops.u (Dtu.mv (lk rfl)) rfl ?_
    refine Ops.decP 30 rfl (fun hy => absurd hy (by first | omega | assumption | decide)) (fun _ => ?_)
    refine Ops.gu rfl rfl rfl (Dtu.mv (lk rfl)) rfl ?_
    refine Ops.gu rfl rfl rfl (Dtu.eqNil Try.underlying23 (lk rfl) (lk rfl)) rfl ?_
    refine Ops.gu rfl rfl rfl (Dtu.mv (lk rfl)) rfl ?_
    refine Ops.gu rfl rfl rfl (Dtu.neq (lk rfl) (lk rfl)) rfl ?_
    refine Ops.gu rfl rfl rfl (Dtu.neB Try.underlying4 (lk rfl) (lk rfl)) rfl ?_
    refine Ops.u (Dtu.pickF (lk rfl) (lk rfl)) rfl ?_
    refine Ops.nil ?_
    refine Then.next ?_
    refine Body.condP (lk rfl) (fun hy => absurd hy (nbneOf rfl (decide_eq_false (by first | omega | assumption | decide)) rfl)) (fun _ => ?_)
    refine Body.skip ?_
    refine Then.next ?_
    refine Body.seq ?_
    refine Body.seq ?_
    refine Body.region ?_
    refine Ops.u (Dtu.mv (lk rfl)) rfl ?_
    refine Ops.u (Dtu.neq (lk rfl) (lk rfl)) rfl ?_
    refine Ops.nil ?_
    refine Then.next ?_
    refine Body.condP (lk rfl) (fun hy => absurd hy (by first | omega | assumption | decide)) (fun _ => ?_)
    refine Body.skip ?_
    refine Then.next ?_
    refine Body.seq ?_
    refine Body.seq ?_
    refine Body.region ?_
    refine Ops.u (Dtu.asg (lk rfl)) rfl ?_
    refine Ops.nil ?_
    refine Then.next ?_
    refine Body.block ?_
    refine Body.loopH (γ := GLv) rfl (fun s => [(11, .int .i64 s.i)]) (fun s => [(0, own b9 [.int .i64 s.g.r, .int .i64 s.g.c, .slice s.a (s.g.r * s.g.c) s.c] 29), (1, osl 49 11 (.slice s.a (s.g.r * s.g.c) s.c) (s.g.r * s.g.c) (s.g.flat.flatMap Cell.renc)), (2, gridP nb18 s.g)]) (fun s => s.i ≤ ops.length ∧ s.g.Ok ∧ s.g.In) (fun s => ops.length - s.i) (⟨0, Gd.new rows cols, ra24, rc24⟩) (⟨Nat.zero_le _, Gd.new_ok hf, Gd.new_in _ _⟩) ⟨rfl, trivial⟩ rfl ?_
    rintro ⟨i, g, a, c⟩ u ⟨hi, ok, hgi⟩
    dsimp only at hi ok hgi ⊢
    have fin : rSame g g = true := rSame_all rfl rfl fun j _ => rEq_self _
    by_cases hlt : i < ops.length ∧ i < 40
    · have hlt1 := hlt.1
      have ho : ops[i]! ∈ ops := by rw [getElem!_pos ops i hlt.1]; exact List.getElem_mem _
      have hoi := hin _ ho
      have ho1 := hoi.1
      have ho2 := hoi.2.1
      refine Body.seq ?_
      refine Body.seq ?_
      refine Body.region ?_
      refine Ops.u (Dtu.mv (lk rfl)) rfl ?_
      refine Ops.u (Dtu.mv (lk rfl)) rfl ?_
      refine Ops.u (Dtu.lenS Try.underlying22 (Sl.up hv) (lk rfl)) rfl ?_
      refine Ops.u (Dtu.lss (lk rfl) (lk rfl)) rfl ?_
      refine Ops.u (Dtu.mv (lk rfl)) rfl ?_
      refine Ops.decP 44 rfl (fun _ => ?_) (fun hn => absurd (by first | omega | assumption | decide) hn)
      refine Ops.gu rfl rfl rfl (Dtu.mv (lk rfl)) rfl ?_
      refine Ops.gu rfl rfl rfl (Dtu.lss (lk rfl) (lk rfl)) rfl ?_
      refine Ops.u (Dtu.pickT (lk rfl) (lk rfl)) rfl ?_
      refine Ops.nil ?_
      refine Then.next ?_
      refine Body.condP (lk rfl) (fun _ => ?_) (fun hn => absurd (by first | omega | assumption | decide) hn)
      refine Body.skip ?_
      refine Then.next ?_
      refine Body.seq ?_
      refine Body.block ?_
      refine Body.seq ?_
      refine Body.region ?_
      refine Ops.u (Dtu.asg (lk rfl)) rfl ?_
      refine Ops.nil ?_
      refine Then.next ?_
      refine Body.seq ?_
      refine Body.draw mixed ?_
      refine AB.u 0 rfl (by decide +kernel) (Dtu.mv (lk rfl)) rfl ?_
      refine AB.d 1 rfl (by decide +kernel) rfl (Det.lda Try.isAgg29 Try.sizeOf29 (lk rfl) (Rds.ow (m := 3) 0 rfl rfl) rfl) rfl ?_
      refine AB.u 2 rfl (by decide +kernel) (Dtu.mv (lk rfl)) rfl ?_
      refine AB.u 3 rfl (by decide +kernel) (Dtu.mv (lk rfl)) rfl ?_
      refine AB.u 4 rfl (by decide +kernel) (Dtu.ix (i := (i)) Try.underlying22 Try.sizeOf41 (Sl.up hv) (lk rfl) (lk rfl) (by omega) (by omega)) rfl ?_
      refine AB.d 5 rfl (by decide +kernel) rfl (Det.lda Try.isAgg41 Try.sizeOf41 (lk rfl) (Rds.sl (Sl.up hv) (gf (sz := 8) (fun _ => rfl) (by omega))) rfl) rfl ?_
      refine AB.s 6 rfl (by decide +kernel) (by decide +kernel) (Stp.callOwn [2, 1] rfl rfl Try.call15 (lks rfl) (fun E' le hat => do17_ok E' _ _ _ _ _ _ _ _ _ _ _ _ (by first | assumption | omega) (by first | assumption | omega) (by first | assumption | omega)) ?_) rfl
      rintro _ _ ⟨da57, dm57, dg57, hdg57, rfl, rfl⟩
      refine AB.u 7 rfl (by decide +kernel) (Dtu.mv (lk rfl)) rfl ?_
      refine AB.u 8 rfl (by decide +kernel) (Dtu.ext (lk rfl) rfl) rfl ?_
      refine AB.u 9 rfl (by decide +kernel) (Dtu.ext (lk rfl) rfl) rfl ?_
      refine AB.e 10 rfl (by decide +kernel) (by decide +kernel) (Stp.store 2 Try.sizeOf29 (lk rfl) (lk rfl) rfl rfl rfl rfl rfl rfl rfl ?_)
      refine AB.u 11 rfl (by decide +kernel) (Dtu.asg (lk rfl)) rfl ?_
      refine AB.done (by decide +kernel) ?_
      refine Then.next ?_
      refine Body.seq ?_
      have ok2 : dg57.Ok := by rw [hdg57]; exact Gd.op_ok ok ops[i]!
      have hgi2 : dg57.In := by rw [hdg57]; exact Gd.op_in hgi ops[i]! hoi
      clear hdg57 hgi ok fin
      by_cases hh : dg57.has ops[i]!.a ops[i]!.b
      · have hd := decide_eq_true hh
        have hq := rEq_self (dg57.f ops[i]!.a.toNat ops[i]!.b.toNat)
        have hq1 := (hgi2 ops[i]!.a.toNat ops[i]!.b.toNat).1
        have hq2 := (hgi2 ops[i]!.a.toNat ops[i]!.b.toNat).2.1
        refine Body.seq ?_
        refine Body.region ?_
        refine Ops.u (Dtu.mv (lk rfl)) rfl ?_
        refine Ops.u (Dtu.not (lk rfl)) rfl ?_
        refine Ops.nil ?_
        refine Then.next ?_
        refine Body.condF (lk rfl) ?_
        refine Body.skip ?_
        refine Then.next ?_
        refine Body.seq ?_
        refine Body.drawE [] mixed rfl ?_
        rintro E14' le14 -
        have hv_14 := Sl.mono hv le14
        refine AE.u 0 rfl (by decide +kernel) (Dtu.mv (lk rfl)) rfl ?_
        refine AE.u 1 rfl (by decide +kernel) (Dtu.mv (lk rfl)) rfl ?_
        refine AE.u 2 rfl (by decide +kernel) (Dtu.mv (lk rfl)) rfl ?_
        refine AE.u 3 rfl (by decide +kernel) (Dtu.ix (i := (i)) Try.underlying22 Try.sizeOf41 (Sl.up hv_14) (lk rfl) (lk rfl) (by omega) (by omega)) rfl ?_
        refine AE.u 4 rfl (by decide +kernel) (Dtu.fld fa41_1 (lk rfl)) rfl ?_
        refine AE.d 5 rfl (by decide +kernel) (Det.ld Try.isAgg3 (lk rfl) (Rd.sl2 (Sl.up hv_14) (gfe (sz := 8) (fun _ => rfl) (by omega) rfl))) rfl ?_
        refine AE.u 6 rfl (by decide +kernel) (Dtu.mv (lk rfl)) rfl ?_
        refine AE.u 7 rfl (by decide +kernel) (Dtu.mv (lk rfl)) rfl ?_
        refine AE.u 8 rfl (by decide +kernel) (Dtu.ix (i := (i)) Try.underlying22 Try.sizeOf41 (Sl.up hv_14) (lk rfl) (lk rfl) (by omega) (by omega)) rfl ?_
        refine AE.u 9 rfl (by decide +kernel) (Dtu.fld fa41_2 (lk rfl)) rfl ?_
        refine AE.d 10 rfl (by decide +kernel) (Det.ld Try.isAgg3 (lk rfl) (Rd.sl2 (Sl.up hv_14) (gfe (sz := 8) (fun _ => rfl) (by omega) rfl))) rfl ?_
        refine AE.more [11, 15] (by decide +kernel) rfl ⟨?_, ?_, trivial⟩
        · refine AEI.s rfl (Stp.callOwn [0] rfl rfl Try.call16 (lks rfl) (fun E' le hat => at_y E' _ _ _ _ (by first | assumption | omega)) ?_) rfl
          rintro _ _ ⟨rfl, rfl⟩
          refine AE.u 12 rfl (by decide +kernel) (Dtu.mv (lk rfl)) rfl ?_
          refine AE.u 13 rfl (by decide +kernel) (Dtu.ext (lk rfl) rfl) rfl ?_
          refine AE.u 14 rfl (by decide +kernel) (Dtu.ext (lk rfl) rfl) rfl ?_
          refine AE.more [15] (by decide +kernel) rfl ⟨?_, trivial⟩
          refine AEI.s rfl (Stp.alloc ty39 (fun b13 => ?_)) rfl
          refine AE.more [16] (by decide +kernel) rfl ⟨?_, trivial⟩
          refine AEI.e rfl (Stp.store 0 Try.sizeOf39 (lk rfl) (lk rfl) rfl rfl rfl rfl rfl rfl rfl ?_)
          refine AE.u 17 rfl (by decide +kernel) (Dtu.asg (lk rfl)) rfl ?_
          refine AE.done (by decide +kernel) ?_
          refine Then.next ?_
          refine Body.seq ?_
          refine Body.drawE [0, 2] mixed rfl ?_
          rintro E15' le15 ⟨hA15_0, hA15_1, -⟩
          have hv_15 := Sl.mono hv le15
          refine AE.d 0 rfl (by decide +kernel) (Det.lda Try.isAgg29 Try.sizeOf29 (lk rfl) (Rds.at (m := 3) hA15_1 rfl) rfl) rfl ?_
          refine AE.u 1 rfl (by decide +kernel) (Dtu.mv (lk rfl)) rfl ?_
          refine AE.u 2 rfl (by decide +kernel) (Dtu.mv (lk rfl)) rfl ?_
          refine AE.u 3 rfl (by decide +kernel) (Dtu.ix (i := (i)) Try.underlying22 Try.sizeOf41 (Sl.up hv_15) (lk rfl) (lk rfl) (by omega) (by omega)) rfl ?_
          refine AE.u 4 rfl (by decide +kernel) (Dtu.fld fa41_1 (lk rfl)) rfl ?_
          refine AE.d 5 rfl (by decide +kernel) (Det.ld Try.isAgg3 (lk rfl) (Rd.sl2 (Sl.up hv_15) (gfe (sz := 8) (fun _ => rfl) (by omega) rfl))) rfl ?_
          refine AE.u 6 rfl (by decide +kernel) (Dtu.mv (lk rfl)) rfl ?_
          refine AE.u 7 rfl (by decide +kernel) (Dtu.mv (lk rfl)) rfl ?_
          refine AE.u 8 rfl (by decide +kernel) (Dtu.ix (i := (i)) Try.underlying22 Try.sizeOf41 (Sl.up hv_15) (lk rfl) (lk rfl) (by omega) (by omega)) rfl ?_
          refine AE.u 9 rfl (by decide +kernel) (Dtu.fld fa41_2 (lk rfl)) rfl ?_
          refine AE.d 10 rfl (by decide +kernel) (Det.ld Try.isAgg3 (lk rfl) (Rd.sl2 (Sl.up hv_15) (gfe (sz := 8) (fun _ => rfl) (by omega) rfl))) rfl ?_
          refine AE.u 12 rfl (by decide +kernel) (Dtu.mv (lk rfl)) rfl ?_
          refine AE.u 13 rfl (by decide +kernel) (Dtu.eql (lk rfl) (lk rfl)) rfl ?_
          refine AE.more [11] (by decide +kernel) rfl ⟨?_, trivial⟩
          refine AEI.s rfl (Stp.call rfl Try.call17 (lks rfl) (fun E' le hat => rhas_g E' _ _ _ _ ⟨_, _, _, rfl⟩) ?_) rfl
          rintro _ _ ⟨rfl, rfl⟩
          refine AE.u 14 rfl (by decide +kernel) (Dtu.neB Try.underlying4 (lk rfl) (lk rfl)) rfl ?_
          refine AE.u 15 rfl (by decide +kernel) (Dtu.mv (lk rfl)) rfl ?_
          refine AE.decP 92 rfl (fun hy => absurd hy (nbneOf hd (decide_eq_true (by first | omega | assumption | decide)) rfl)) (fun _ => ?_)
          refine AE.gu 16 rfl (by decide +kernel) rfl rfl rfl (Dtu.mv (lk rfl)) rfl ?_
          refine AE.gu 17 rfl (by decide +kernel) rfl rfl rfl (Dtu.eql (lk rfl) (lk rfl)) rfl ?_
          refine AE.gu 18 rfl (by decide +kernel) rfl rfl rfl (Dtu.mv (lk rfl)) rfl ?_
          refine AE.decP 95 rfl (fun _ => ?_) (fun hn => absurd (by first | omega | assumption | decide) hn)
          refine AE.gd 19 rfl (by decide +kernel) rfl rfl rfl (Det.lda Try.isAgg39 Try.sizeOf39 (lk rfl) (Rds.at (m := 4) hA15_0 rfl) rfl) rfl ?_
          refine AE.gd 21 rfl (by decide +kernel) rfl rfl rfl (Det.lda Try.isAgg29 Try.sizeOf29 (lk rfl) (Rds.at (m := 3) hA15_1 rfl) rfl) rfl ?_
          refine AE.gu 22 rfl (by decide +kernel) rfl rfl rfl (Dtu.mv (lk rfl)) rfl ?_
          refine AE.gu 23 rfl (by decide +kernel) rfl rfl rfl (Dtu.mv (lk rfl)) rfl ?_
          refine AE.gu 24 rfl (by decide +kernel) rfl rfl rfl (Dtu.ix (i := (i)) Try.underlying22 Try.sizeOf41 (Sl.up hv_15) (lk rfl) (lk rfl) (by omega) (by omega)) rfl ?_
          refine AE.gu 25 rfl (by decide +kernel) rfl rfl rfl (Dtu.fld fa41_1 (lk rfl)) rfl ?_
          refine AE.gd 26 rfl (by decide +kernel) rfl rfl rfl (Det.ld Try.isAgg3 (lk rfl) (Rd.sl2 (Sl.up hv_15) (gfe (sz := 8) (fun _ => rfl) (by omega) rfl))) rfl ?_
          refine AE.gu 27 rfl (by decide +kernel) rfl rfl rfl (Dtu.mv (lk rfl)) rfl ?_
          refine AE.gu 28 rfl (by decide +kernel) rfl rfl rfl (Dtu.mv (lk rfl)) rfl ?_
          refine AE.gu 29 rfl (by decide +kernel) rfl rfl rfl (Dtu.ix (i := (i)) Try.underlying22 Try.sizeOf41 (Sl.up hv_15) (lk rfl) (lk rfl) (by omega) (by omega)) rfl ?_
          refine AE.gu 30 rfl (by decide +kernel) rfl rfl rfl (Dtu.fld fa41_2 (lk rfl)) rfl ?_
          refine AE.gd 31 rfl (by decide +kernel) rfl rfl rfl (Det.ld Try.isAgg3 (lk rfl) (Rd.sl2 (Sl.up hv_15) (gfe (sz := 8) (fun _ => rfl) (by omega) rfl))) rfl ?_
          refine AE.more [20] (by decide +kernel) rfl ⟨?_, trivial⟩
          refine AEI.gs rfl rfl rfl rfl (Stp.call rfl Try.call18 (lks rfl) (fun E' le hat => cell17_ok E' _ _ _ _ (by first | assumption | omega) (by first | assumption | omega)) ?_) rfl
          rintro _ _ ⟨rfl, rfl⟩
          refine AE.more [32] (by decide +kernel) rfl ⟨?_, trivial⟩
          refine AEI.gs rfl rfl rfl rfl (Stp.call rfl Try.call19 (lks rfl) (fun E' le hat => rat_g E' _ _ _ _ (by first | assumption | omega) (by first | assumption | omega) (by first | exact Sl.mono (by assumption) le | exact Sl.at (hat _ (.head _)) | exact Sl.at (hat _ (.tail _ (.head _))) | exact Sl.at (hat _ (.tail _ (.tail _ (.head _)))) | exact Sl.at (hat _ (.tail _ (.tail _ (.tail _ (.head _))))) | exact Sl.at (hat _ (.tail _ (.tail _ (.tail _ (.tail _ (.head _)))))) | exact Sl.at (hat _ (.tail _ (.tail _ (.tail _ (.tail _ (.tail _ (.head _))))))))) ?_) rfl
          rintro _ _ ⟨rfl, rfl⟩
          refine AE.gu 33 rfl (by decide +kernel) rfl rfl rfl (Dtu.neS eqGuard49 (eq49 _ _) (lk rfl) (lk rfl)) rfl ?_
          refine AE.gu 34 rfl (by decide +kernel) rfl rfl rfl (Dtu.pickT (lk rfl) (lk rfl)) rfl ?_
          refine AE.u 35 rfl (by decide +kernel) (Dtu.pickF (lk rfl) (lk rfl)) rfl ?_
          refine AE.u 36 rfl (by decide +kernel) (Dtu.mv (lk rfl)) rfl ?_
          refine AE.dec 113 rfl (fun hn => absurd hn (by first | (rw [hq]; decide) | simp [hq])) (fun _ => ?_)
          refine AE.gu 37 rfl (by decide +kernel) rfl rfl rfl (Dtu.mv (lk rfl)) rfl ?_
          refine AE.gu 38 rfl (by decide +kernel) rfl rfl rfl (Dtu.neq (lk rfl) (lk rfl)) rfl ?_
          refine AE.gu 39 rfl (by decide +kernel) rfl rfl rfl (Dtu.mv (lk rfl)) rfl ?_
          refine AE.decP 116 rfl (fun hy => absurd hy (by first | omega | assumption | decide)) (fun _ => ?_)
          refine AE.gn 40 rfl (by decide +kernel) rfl rfl rfl rfl rfl ?_
          refine AE.gn 41 rfl (by decide +kernel) rfl rfl rfl rfl rfl ?_
          refine AE.gu 42 rfl (by decide +kernel) rfl rfl rfl (Dtu.pickF (lk rfl) (lk rfl)) rfl ?_
          refine AE.u 43 rfl (by decide +kernel) (Dtu.pickF (lk rfl) (lk rfl)) rfl ?_
          refine AE.done (by decide +kernel) ?_
          refine Then.next ?_
          refine Body.condF (lk rfl) ?_
          refine Body.skip ?_
          refine Blk.norm ?_
          refine Then.next ?_
          refine Body.region ?_
          refine Ops.u (Dtu.mv (lk rfl)) rfl ?_
          refine Ops.u (Dtu.add (lk rfl) (lk rfl) (w64 (by omega) (by omega))) rfl ?_
          refine Ops.u (Dtu.asg (lk rfl)) rfl ?_
          refine Ops.nil ?_
          refine Round.goK [3, 1, 0] ⟨i + 1, dg57, da57, dm57⟩ rfl rfl rfl ⟨rfl, trivial⟩ rfl rfl ⟨hlt1, ok2, hgi2⟩ (by dsimp only; omega)
        · refine AEI.s rfl (Stp.alloc ty39 (fun b13 => ?_)) rfl
          refine AE.more [11] (by decide +kernel) rfl ⟨?_, trivial⟩
          refine AEI.s rfl (Stp.callOwn [1] rfl rfl Try.call16 (lks rfl) (fun E' le hat => at_y E' _ _ _ _ (by first | assumption | omega)) ?_) rfl
          rintro _ _ ⟨rfl, rfl⟩
          refine AE.u 12 rfl (by decide +kernel) (Dtu.mv (lk rfl)) rfl ?_
          refine AE.u 13 rfl (by decide +kernel) (Dtu.ext (lk rfl) rfl) rfl ?_
          refine AE.u 14 rfl (by decide +kernel) (Dtu.ext (lk rfl) rfl) rfl ?_
          refine AE.more [16] (by decide +kernel) rfl ⟨?_, trivial⟩
          refine AEI.e rfl (Stp.store 1 Try.sizeOf39 (lk rfl) (lk rfl) rfl rfl rfl rfl rfl rfl rfl ?_)
          refine AE.u 17 rfl (by decide +kernel) (Dtu.asg (lk rfl)) rfl ?_
          refine AE.done (by decide +kernel) ?_
          refine Then.next ?_
          refine Body.seq ?_
          refine Body.drawE [1, 2] mixed rfl ?_
          rintro E15' le15 ⟨hA15_0, hA15_1, -⟩
          have hv_15 := Sl.mono hv le15
          refine AE.d 0 rfl (by decide +kernel) (Det.lda Try.isAgg29 Try.sizeOf29 (lk rfl) (Rds.at (m := 3) hA15_1 rfl) rfl) rfl ?_
          refine AE.u 1 rfl (by decide +kernel) (Dtu.mv (lk rfl)) rfl ?_
          refine AE.u 2 rfl (by decide +kernel) (Dtu.mv (lk rfl)) rfl ?_
          refine AE.u 3 rfl (by decide +kernel) (Dtu.ix (i := (i)) Try.underlying22 Try.sizeOf41 (Sl.up hv_15) (lk rfl) (lk rfl) (by omega) (by omega)) rfl ?_
          refine AE.u 4 rfl (by decide +kernel) (Dtu.fld fa41_1 (lk rfl)) rfl ?_
          refine AE.d 5 rfl (by decide +kernel) (Det.ld Try.isAgg3 (lk rfl) (Rd.sl2 (Sl.up hv_15) (gfe (sz := 8) (fun _ => rfl) (by omega) rfl))) rfl ?_
          refine AE.u 6 rfl (by decide +kernel) (Dtu.mv (lk rfl)) rfl ?_
          refine AE.u 7 rfl (by decide +kernel) (Dtu.mv (lk rfl)) rfl ?_
          refine AE.u 8 rfl (by decide +kernel) (Dtu.ix (i := (i)) Try.underlying22 Try.sizeOf41 (Sl.up hv_15) (lk rfl) (lk rfl) (by omega) (by omega)) rfl ?_
          refine AE.u 9 rfl (by decide +kernel) (Dtu.fld fa41_2 (lk rfl)) rfl ?_
          refine AE.d 10 rfl (by decide +kernel) (Det.ld Try.isAgg3 (lk rfl) (Rd.sl2 (Sl.up hv_15) (gfe (sz := 8) (fun _ => rfl) (by omega) rfl))) rfl ?_
          refine AE.u 12 rfl (by decide +kernel) (Dtu.mv (lk rfl)) rfl ?_
          refine AE.u 13 rfl (by decide +kernel) (Dtu.eql (lk rfl) (lk rfl)) rfl ?_
          refine AE.more [11] (by decide +kernel) rfl ⟨?_, trivial⟩
          refine AEI.s rfl (Stp.call rfl Try.call17 (lks rfl) (fun E' le hat => rhas_g E' _ _ _ _ ⟨_, _, _, rfl⟩) ?_) rfl
          rintro _ _ ⟨rfl, rfl⟩
          refine AE.u 14 rfl (by decide +kernel) (Dtu.neB Try.underlying4 (lk rfl) (lk rfl)) rfl ?_
          refine AE.u 15 rfl (by decide +kernel) (Dtu.mv (lk rfl)) rfl ?_
          refine AE.decP 92 rfl (fun hy => absurd hy (nbneOf hd (decide_eq_true (by first | omega | assumption | decide)) rfl)) (fun _ => ?_)
          refine AE.gu 16 rfl (by decide +kernel) rfl rfl rfl (Dtu.mv (lk rfl)) rfl ?_
          refine AE.gu 17 rfl (by decide +kernel) rfl rfl rfl (Dtu.eql (lk rfl) (lk rfl)) rfl ?_
          refine AE.gu 18 rfl (by decide +kernel) rfl rfl rfl (Dtu.mv (lk rfl)) rfl ?_
          refine AE.decP 95 rfl (fun _ => ?_) (fun hn => absurd (by first | omega | assumption | decide) hn)
          refine AE.gd 19 rfl (by decide +kernel) rfl rfl rfl (Det.lda Try.isAgg39 Try.sizeOf39 (lk rfl) (Rds.at (m := 4) hA15_0 rfl) rfl) rfl ?_
          refine AE.gd 21 rfl (by decide +kernel) rfl rfl rfl (Det.lda Try.isAgg29 Try.sizeOf29 (lk rfl) (Rds.at (m := 3) hA15_1 rfl) rfl) rfl ?_
          refine AE.gu 22 rfl (by decide +kernel) rfl rfl rfl (Dtu.mv (lk rfl)) rfl ?_
          refine AE.gu 23 rfl (by decide +kernel) rfl rfl rfl (Dtu.mv (lk rfl)) rfl ?_
          refine AE.gu 24 rfl (by decide +kernel) rfl rfl rfl (Dtu.ix (i := (i)) Try.underlying22 Try.sizeOf41 (Sl.up hv_15) (lk rfl) (lk rfl) (by omega) (by omega)) rfl ?_
          refine AE.gu 25 rfl (by decide +kernel) rfl rfl rfl (Dtu.fld fa41_1 (lk rfl)) rfl ?_
          refine AE.gd 26 rfl (by decide +kernel) rfl rfl rfl (Det.ld Try.isAgg3 (lk rfl) (Rd.sl2 (Sl.up hv_15) (gfe (sz := 8) (fun _ => rfl) (by omega) rfl))) rfl ?_
          refine AE.gu 27 rfl (by decide +kernel) rfl rfl rfl (Dtu.mv (lk rfl)) rfl ?_
          refine AE.gu 28 rfl (by decide +kernel) rfl rfl rfl (Dtu.mv (lk rfl)) rfl ?_
          refine AE.gu 29 rfl (by decide +kernel) rfl rfl rfl (Dtu.ix (i := (i)) Try.underlying22 Try.sizeOf41 (Sl.up hv_15) (lk rfl) (lk rfl) (by omega) (by omega)) rfl ?_
          refine AE.gu 30 rfl (by decide +kernel) rfl rfl rfl (Dtu.fld fa41_2 (lk rfl)) rfl ?_
          refine AE.gd 31 rfl (by decide +kernel) rfl rfl rfl (Det.ld Try.isAgg3 (lk rfl) (Rd.sl2 (Sl.up hv_15) (gfe (sz := 8) (fun _ => rfl) (by omega) rfl))) rfl ?_
          refine AE.more [20] (by decide +kernel) rfl ⟨?_, trivial⟩
          refine AEI.gs rfl rfl rfl rfl (Stp.call rfl Try.call18 (lks rfl) (fun E' le hat => cell17_ok E' _ _ _ _ (by first | assumption | omega) (by first | assumption | omega)) ?_) rfl
          rintro _ _ ⟨rfl, rfl⟩
          refine AE.more [32] (by decide +kernel) rfl ⟨?_, trivial⟩
          refine AEI.gs rfl rfl rfl rfl (Stp.call rfl Try.call19 (lks rfl) (fun E' le hat => rat_g E' _ _ _ _ (by first | assumption | omega) (by first | assumption | omega) (by first | exact Sl.mono (by assumption) le | exact Sl.at (hat _ (.head _)) | exact Sl.at (hat _ (.tail _ (.head _))) | exact Sl.at (hat _ (.tail _ (.tail _ (.head _)))) | exact Sl.at (hat _ (.tail _ (.tail _ (.tail _ (.head _))))) | exact Sl.at (hat _ (.tail _ (.tail _ (.tail _ (.tail _ (.head _)))))) | exact Sl.at (hat _ (.tail _ (.tail _ (.tail _ (.tail _ (.tail _ (.head _))))))))) ?_) rfl
          rintro _ _ ⟨rfl, rfl⟩
          refine AE.gu 33 rfl (by decide +kernel) rfl rfl rfl (Dtu.neS eqGuard49 (eq49 _ _) (lk rfl) (lk rfl)) rfl ?_
          refine AE.gu 34 rfl (by decide +kernel) rfl rfl rfl (Dtu.pickT (lk rfl) (lk rfl)) rfl ?_
          refine AE.u 35 rfl (by decide +kernel) (Dtu.pickF (lk rfl) (lk rfl)) rfl ?_
          refine AE.u 36 rfl (by decide +kernel) (Dtu.mv (lk rfl)) rfl ?_
          refine AE.dec 113 rfl (fun hn => absurd hn (by first | (rw [hq]; decide) | simp [hq])) (fun _ => ?_)
          refine AE.gu 37 rfl (by decide +kernel) rfl rfl rfl (Dtu.mv (lk rfl)) rfl ?_
          refine AE.gu 38 rfl (by decide +kernel) rfl rfl rfl (Dtu.neq (lk rfl) (lk rfl)) rfl ?_
          refine AE.gu 39 rfl (by decide +kernel) rfl rfl rfl (Dtu.mv (lk rfl)) rfl ?_
          refine AE.decP 116 rfl (fun hy => absurd hy (by first | omega | assumption | decide)) (fun _ => ?_)
          refine AE.gn 40 rfl (by decide +kernel) rfl rfl rfl rfl rfl ?_
          refine AE.gn 41 rfl (by decide +kernel) rfl rfl rfl rfl rfl ?_
          refine AE.gu 42 rfl (by decide +kernel) rfl rfl rfl (Dtu.pickF (lk rfl) (lk rfl)) rfl ?_
          refine AE.u 43 rfl (by decide +kernel) (Dtu.pickF (lk rfl) (lk rfl)) rfl ?_
          refine AE.done (by decide +kernel) ?_
          refine Then.next ?_
          refine Body.condF (lk rfl) ?_
          refine Body.skip ?_
          refine Blk.norm ?_
          refine Then.next ?_
          refine Body.region ?_
          refine Ops.u (Dtu.mv (lk rfl)) rfl ?_
          refine Ops.u (Dtu.add (lk rfl) (lk rfl) (w64 (by omega) (by omega))) rfl ?_
          refine Ops.u (Dtu.asg (lk rfl)) rfl ?_
          refine Ops.nil ?_
          refine Round.goK [3, 1, 0] ⟨i + 1, dg57, da57, dm57⟩ rfl rfl rfl ⟨rfl, trivial⟩ rfl rfl ⟨hlt1, ok2, hgi2⟩ (by dsimp only; omega)
      · have hd := decide_eq_false hh
        refine Body.seq ?_
        refine Body.region ?_
        refine Ops.u (Dtu.mv (lk rfl)) rfl ?_
        refine Ops.u (Dtu.not (lk rfl)) rfl ?_
        refine Ops.nil ?_
        refine Then.next ?_
        refine Body.condF (lk rfl) ?_
        refine Body.skip ?_
        refine Then.next ?_
        refine Body.seq ?_
        refine Body.drawE [] mixed rfl ?_
        rintro E14' le14 -
        have hv_14 := Sl.mono hv le14
        refine AE.u 0 rfl (by decide +kernel) (Dtu.mv (lk rfl)) rfl ?_
        refine AE.u 1 rfl (by decide +kernel) (Dtu.mv (lk rfl)) rfl ?_
        refine AE.u 2 rfl (by decide +kernel) (Dtu.mv (lk rfl)) rfl ?_
        refine AE.u 3 rfl (by decide +kernel) (Dtu.ix (i := (i)) Try.underlying22 Try.sizeOf41 (Sl.up hv_14) (lk rfl) (lk rfl) (by omega) (by omega)) rfl ?_
        refine AE.u 4 rfl (by decide +kernel) (Dtu.fld fa41_1 (lk rfl)) rfl ?_
        refine AE.d 5 rfl (by decide +kernel) (Det.ld Try.isAgg3 (lk rfl) (Rd.sl2 (Sl.up hv_14) (gfe (sz := 8) (fun _ => rfl) (by omega) rfl))) rfl ?_
        refine AE.u 6 rfl (by decide +kernel) (Dtu.mv (lk rfl)) rfl ?_
        refine AE.u 7 rfl (by decide +kernel) (Dtu.mv (lk rfl)) rfl ?_
        refine AE.u 8 rfl (by decide +kernel) (Dtu.ix (i := (i)) Try.underlying22 Try.sizeOf41 (Sl.up hv_14) (lk rfl) (lk rfl) (by omega) (by omega)) rfl ?_
        refine AE.u 9 rfl (by decide +kernel) (Dtu.fld fa41_2 (lk rfl)) rfl ?_
        refine AE.d 10 rfl (by decide +kernel) (Det.ld Try.isAgg3 (lk rfl) (Rd.sl2 (Sl.up hv_14) (gfe (sz := 8) (fun _ => rfl) (by omega) rfl))) rfl ?_
        refine AE.more [11, 15] (by decide +kernel) rfl ⟨?_, ?_, trivial⟩
        · refine AEI.s rfl (Stp.callOwn [0] rfl rfl Try.call16 (lks rfl) (fun E' le hat => at_n E' _ _ _ _ (by first | assumption | omega)) ?_) rfl
          rintro _ _ ⟨rfl, rfl⟩
          refine AE.u 12 rfl (by decide +kernel) (Dtu.mv (lk rfl)) rfl ?_
          refine AE.u 13 rfl (by decide +kernel) (Dtu.ext (lk rfl) rfl) rfl ?_
          refine AE.u 14 rfl (by decide +kernel) (Dtu.ext (lk rfl) rfl) rfl ?_
          refine AE.more [15] (by decide +kernel) rfl ⟨?_, trivial⟩
          refine AEI.s rfl (Stp.alloc ty39 (fun b13 => ?_)) rfl
          refine AE.more [16] (by decide +kernel) rfl ⟨?_, trivial⟩
          refine AEI.e rfl (Stp.store 0 Try.sizeOf39 (lk rfl) (lk rfl) rfl rfl rfl rfl rfl rfl rfl ?_)
          refine AE.u 17 rfl (by decide +kernel) (Dtu.asg (lk rfl)) rfl ?_
          refine AE.done (by decide +kernel) ?_
          refine Then.next ?_
          refine Body.seq ?_
          refine Body.drawE [0, 2] mixed rfl ?_
          rintro E15' le15 ⟨hA15_0, hA15_1, -⟩
          have hv_15 := Sl.mono hv le15
          refine AE.d 0 rfl (by decide +kernel) (Det.lda Try.isAgg29 Try.sizeOf29 (lk rfl) (Rds.at (m := 3) hA15_1 rfl) rfl) rfl ?_
          refine AE.u 1 rfl (by decide +kernel) (Dtu.mv (lk rfl)) rfl ?_
          refine AE.u 2 rfl (by decide +kernel) (Dtu.mv (lk rfl)) rfl ?_
          refine AE.u 3 rfl (by decide +kernel) (Dtu.ix (i := (i)) Try.underlying22 Try.sizeOf41 (Sl.up hv_15) (lk rfl) (lk rfl) (by omega) (by omega)) rfl ?_
          refine AE.u 4 rfl (by decide +kernel) (Dtu.fld fa41_1 (lk rfl)) rfl ?_
          refine AE.d 5 rfl (by decide +kernel) (Det.ld Try.isAgg3 (lk rfl) (Rd.sl2 (Sl.up hv_15) (gfe (sz := 8) (fun _ => rfl) (by omega) rfl))) rfl ?_
          refine AE.u 6 rfl (by decide +kernel) (Dtu.mv (lk rfl)) rfl ?_
          refine AE.u 7 rfl (by decide +kernel) (Dtu.mv (lk rfl)) rfl ?_
          refine AE.u 8 rfl (by decide +kernel) (Dtu.ix (i := (i)) Try.underlying22 Try.sizeOf41 (Sl.up hv_15) (lk rfl) (lk rfl) (by omega) (by omega)) rfl ?_
          refine AE.u 9 rfl (by decide +kernel) (Dtu.fld fa41_2 (lk rfl)) rfl ?_
          refine AE.d 10 rfl (by decide +kernel) (Det.ld Try.isAgg3 (lk rfl) (Rd.sl2 (Sl.up hv_15) (gfe (sz := 8) (fun _ => rfl) (by omega) rfl))) rfl ?_
          refine AE.u 12 rfl (by decide +kernel) (Dtu.mv (lk rfl)) rfl ?_
          refine AE.u 13 rfl (by decide +kernel) (Dtu.eql (lk rfl) (lk rfl)) rfl ?_
          refine AE.more [11] (by decide +kernel) rfl ⟨?_, trivial⟩
          refine AEI.s rfl (Stp.call rfl Try.call17 (lks rfl) (fun E' le hat => rhas_g E' _ _ _ _ ⟨_, _, _, rfl⟩) ?_) rfl
          rintro _ _ ⟨rfl, rfl⟩
          refine AE.u 14 rfl (by decide +kernel) (Dtu.neB Try.underlying4 (lk rfl) (lk rfl)) rfl ?_
          refine AE.u 15 rfl (by decide +kernel) (Dtu.mv (lk rfl)) rfl ?_
          refine AE.decP 92 rfl (fun hy => absurd hy (nbneOf hd (decide_eq_false (by first | omega | assumption | decide)) rfl)) (fun _ => ?_)
          refine AE.gu 16 rfl (by decide +kernel) rfl rfl rfl (Dtu.mv (lk rfl)) rfl ?_
          refine AE.gu 17 rfl (by decide +kernel) rfl rfl rfl (Dtu.eql (lk rfl) (lk rfl)) rfl ?_
          refine AE.gu 18 rfl (by decide +kernel) rfl rfl rfl (Dtu.mv (lk rfl)) rfl ?_
          refine AE.decP 95 rfl (fun hy => absurd hy (by first | omega | assumption | decide)) (fun _ => ?_)
          refine AE.gn 19 rfl (by decide +kernel) rfl rfl rfl rfl rfl ?_
          refine AE.gn 20 rfl (by decide +kernel) rfl rfl rfl rfl rfl ?_
          refine AE.gn 21 rfl (by decide +kernel) rfl rfl rfl rfl rfl ?_
          refine AE.gn 22 rfl (by decide +kernel) rfl rfl rfl rfl rfl ?_
          refine AE.gn 23 rfl (by decide +kernel) rfl rfl rfl rfl rfl ?_
          refine AE.gn 24 rfl (by decide +kernel) rfl rfl rfl rfl rfl ?_
          refine AE.gn 25 rfl (by decide +kernel) rfl rfl rfl rfl rfl ?_
          refine AE.gn 26 rfl (by decide +kernel) rfl rfl rfl rfl rfl ?_
          refine AE.gn 27 rfl (by decide +kernel) rfl rfl rfl rfl rfl ?_
          refine AE.gn 28 rfl (by decide +kernel) rfl rfl rfl rfl rfl ?_
          refine AE.gn 29 rfl (by decide +kernel) rfl rfl rfl rfl rfl ?_
          refine AE.gn 30 rfl (by decide +kernel) rfl rfl rfl rfl rfl ?_
          refine AE.gn 31 rfl (by decide +kernel) rfl rfl rfl rfl rfl ?_
          refine AE.gn 32 rfl (by decide +kernel) rfl rfl rfl rfl rfl ?_
          refine AE.gn 33 rfl (by decide +kernel) rfl rfl rfl rfl rfl ?_
          refine AE.gu 34 rfl (by decide +kernel) rfl rfl rfl (Dtu.pickF (lk rfl) (lk rfl)) rfl ?_
          refine AE.u 35 rfl (by decide +kernel) (Dtu.pickF (lk rfl) (lk rfl)) rfl ?_
          refine AE.u 36 rfl (by decide +kernel) (Dtu.mv (lk rfl)) rfl ?_
          refine AE.gu 37 rfl (by decide +kernel) rfl rfl rfl (Dtu.mv (lk rfl)) rfl ?_
          refine AE.gu 38 rfl (by decide +kernel) rfl rfl rfl (Dtu.neq (lk rfl) (lk rfl)) rfl ?_
          refine AE.gu 39 rfl (by decide +kernel) rfl rfl rfl (Dtu.mv (lk rfl)) rfl ?_
          refine AE.decP 116 rfl (fun _ => ?_) (fun hn => absurd (by first | omega | assumption | decide) hn)
          refine AE.gu 40 rfl (by decide +kernel) rfl rfl rfl (Dtu.mv (lk rfl)) rfl ?_
          refine AE.gu 41 rfl (by decide +kernel) rfl rfl rfl (Dtu.neq (lk rfl) (lk rfl)) rfl ?_
          refine AE.gu 42 rfl (by decide +kernel) rfl rfl rfl (Dtu.pickT (lk rfl) (lk rfl)) rfl ?_
          refine AE.u 43 rfl (by decide +kernel) (Dtu.pickF (lk rfl) (lk rfl)) rfl ?_
          refine AE.done (by decide +kernel) ?_
          refine Then.next ?_
          refine Body.condP (lk rfl) (fun hy => absurd hy (by first | omega | assumption | decide)) (fun _ => ?_)
          refine Body.skip ?_
          refine Blk.norm ?_
          refine Then.next ?_
          refine Body.region ?_
          refine Ops.u (Dtu.mv (lk rfl)) rfl ?_
          refine Ops.u (Dtu.add (lk rfl) (lk rfl) (w64 (by omega) (by omega))) rfl ?_
          refine Ops.u (Dtu.asg (lk rfl)) rfl ?_
          refine Ops.nil ?_
          refine Round.goK [3, 1, 0] ⟨i + 1, dg57, da57, dm57⟩ rfl rfl rfl ⟨rfl, trivial⟩ rfl rfl ⟨hlt1, ok2, hgi2⟩ (by dsimp only; omega)
        · refine AEI.s rfl (Stp.alloc ty39 (fun b13 => ?_)) rfl
          refine AE.more [11] (by decide +kernel) rfl ⟨?_, trivial⟩
          refine AEI.s rfl (Stp.callOwn [1] rfl rfl Try.call16 (lks rfl) (fun E' le hat => at_n E' _ _ _ _ (by first | assumption | omega)) ?_) rfl
          rintro _ _ ⟨rfl, rfl⟩
          refine AE.u 12 rfl (by decide +kernel) (Dtu.mv (lk rfl)) rfl ?_
          refine AE.u 13 rfl (by decide +kernel) (Dtu.ext (lk rfl) rfl) rfl ?_
          refine AE.u 14 rfl (by decide +kernel) (Dtu.ext (lk rfl) rfl) rfl ?_
          refine AE.more [16] (by decide +kernel) rfl ⟨?_, trivial⟩
          refine AEI.e rfl (Stp.store 1 Try.sizeOf39 (lk rfl) (lk rfl) rfl rfl rfl rfl rfl rfl rfl ?_)
          refine AE.u 17 rfl (by decide +kernel) (Dtu.asg (lk rfl)) rfl ?_
          refine AE.done (by decide +kernel) ?_
          refine Then.next ?_
          refine Body.seq ?_
          refine Body.drawE [1, 2] mixed rfl ?_
          rintro E15' le15 ⟨hA15_0, hA15_1, -⟩
          have hv_15 := Sl.mono hv le15
          refine AE.d 0 rfl (by decide +kernel) (Det.lda Try.isAgg29 Try.sizeOf29 (lk rfl) (Rds.at (m := 3) hA15_1 rfl) rfl) rfl ?_
          refine AE.u 1 rfl (by decide +kernel) (Dtu.mv (lk rfl)) rfl ?_
          refine AE.u 2 rfl (by decide +kernel) (Dtu.mv (lk rfl)) rfl ?_
          refine AE.u 3 rfl (by decide +kernel) (Dtu.ix (i := (i)) Try.underlying22 Try.sizeOf41 (Sl.up hv_15) (lk rfl) (lk rfl) (by omega) (by omega)) rfl ?_
          refine AE.u 4 rfl (by decide +kernel) (Dtu.fld fa41_1 (lk rfl)) rfl ?_
          refine AE.d 5 rfl (by decide +kernel) (Det.ld Try.isAgg3 (lk rfl) (Rd.sl2 (Sl.up hv_15) (gfe (sz := 8) (fun _ => rfl) (by omega) rfl))) rfl ?_
          refine AE.u 6 rfl (by decide +kernel) (Dtu.mv (lk rfl)) rfl ?_
          refine AE.u 7 rfl (by decide +kernel) (Dtu.mv (lk rfl)) rfl ?_
          refine AE.u 8 rfl (by decide +kernel) (Dtu.ix (i := (i)) Try.underlying22 Try.sizeOf41 (Sl.up hv_15) (lk rfl) (lk rfl) (by omega) (by omega)) rfl ?_
          refine AE.u 9 rfl (by decide +kernel) (Dtu.fld fa41_2 (lk rfl)) rfl ?_
          refine AE.d 10 rfl (by decide +kernel) (Det.ld Try.isAgg3 (lk rfl) (Rd.sl2 (Sl.up hv_15) (gfe (sz := 8) (fun _ => rfl) (by omega) rfl))) rfl ?_
          refine AE.u 12 rfl (by decide +kernel) (Dtu.mv (lk rfl)) rfl ?_
          refine AE.u 13 rfl (by decide +kernel) (Dtu.eql (lk rfl) (lk rfl)) rfl ?_
          refine AE.more [11] (by decide +kernel) rfl ⟨?_, trivial⟩
          refine AEI.s rfl (Stp.call rfl Try.call17 (lks rfl) (fun E' le hat => rhas_g E' _ _ _ _ ⟨_, _, _, rfl⟩) ?_) rfl
          rintro _ _ ⟨rfl, rfl⟩
          refine AE.u 14 rfl (by decide +kernel) (Dtu.neB Try.underlying4 (lk rfl) (lk rfl)) rfl ?_
          refine AE.u 15 rfl (by decide +kernel) (Dtu.mv (lk rfl)) rfl ?_
          refine AE.decP 92 rfl (fun hy => absurd hy (nbneOf hd (decide_eq_false (by first | omega | assumption | decide)) rfl)) (fun _ => ?_)
          refine AE.gu 16 rfl (by decide +kernel) rfl rfl rfl (Dtu.mv (lk rfl)) rfl ?_
          refine AE.gu 17 rfl (by decide +kernel) rfl rfl rfl (Dtu.eql (lk rfl) (lk rfl)) rfl ?_
          refine AE.gu 18 rfl (by decide +kernel) rfl rfl rfl (Dtu.mv (lk rfl)) rfl ?_
          refine AE.decP 95 rfl (fun hy => absurd hy (by first | omega | assumption | decide)) (fun _ => ?_)
          refine AE.gn 19 rfl (by decide +kernel) rfl rfl rfl rfl rfl ?_
          refine AE.gn 20 rfl (by decide +kernel) rfl rfl rfl rfl rfl ?_
          refine AE.gn 21 rfl (by decide +kernel) rfl rfl rfl rfl rfl ?_
          refine AE.gn 22 rfl (by decide +kernel) rfl rfl rfl rfl rfl ?_
          refine AE.gn 23 rfl (by decide +kernel) rfl rfl rfl rfl rfl ?_
          refine AE.gn 24 rfl (by decide +kernel) rfl rfl rfl rfl rfl ?_
          refine AE.gn 25 rfl (by decide +kernel) rfl rfl rfl rfl rfl ?_
          refine AE.gn 26 rfl (by decide +kernel) rfl rfl rfl rfl rfl ?_
          refine AE.gn 27 rfl (by decide +kernel) rfl rfl rfl rfl rfl ?_
          refine AE.gn 28 rfl (by decide +kernel) rfl rfl rfl rfl rfl ?_
          refine AE.gn 29 rfl (by decide +kernel) rfl rfl rfl rfl rfl ?_
          refine AE.gn 30 rfl (by decide +kernel) rfl rfl rfl rfl rfl ?_
          refine AE.gn 31 rfl (by decide +kernel) rfl rfl rfl rfl rfl ?_
          refine AE.gn 32 rfl (by decide +kernel) rfl rfl rfl rfl rfl ?_
          refine AE.gn 33 rfl (by decide +kernel) rfl rfl rfl rfl rfl ?_
          refine AE.gu 34 rfl (by decide +kernel) rfl rfl rfl (Dtu.pickF (lk rfl) (lk rfl)) rfl ?_
          refine AE.u 35 rfl (by decide +kernel) (Dtu.pickF (lk rfl) (lk rfl)) rfl ?_
          refine AE.u 36 rfl (by decide +kernel) (Dtu.mv (lk rfl)) rfl ?_
          refine AE.gu 37 rfl (by decide +kernel) rfl rfl rfl (Dtu.mv (lk rfl)) rfl ?_
          refine AE.gu 38 rfl (by decide +kernel) rfl rfl rfl (Dtu.neq (lk rfl) (lk rfl)) rfl ?_
          refine AE.gu 39 rfl (by decide +kernel) rfl rfl rfl (Dtu.mv (lk rfl)) rfl ?_
          refine AE.decP 116 rfl (fun _ => ?_) (fun hn => absurd (by first | omega | assumption | decide) hn)
          refine AE.gu 40 rfl (by decide +kernel) rfl rfl rfl (Dtu.mv (lk rfl)) rfl ?_
          refine AE.gu 41 rfl (by decide +kernel) rfl rfl rfl (Dtu.neq (lk rfl) (lk rfl)) rfl ?_
          refine AE.gu 42 rfl (by decide +kernel) rfl rfl rfl (Dtu.pickT (lk rfl) (lk rfl)) rfl ?_
          refine AE.u 43 rfl (by decide +kernel) (Dtu.pickF (lk rfl) (lk rfl)) rfl ?_
          refine AE.done (by decide +kernel) ?_
          refine Then.next ?_
          refine Body.condP (lk rfl) (fun hy => absurd hy (by first | omega | assumption | decide)) (fun _ => ?_)
          refine Body.skip ?_
          refine Blk.norm ?_
          refine Then.next ?_
          refine Body.region ?_
          refine Ops.u (Dtu.mv (lk rfl)) rfl ?_
          refine Ops.u (Dtu.add (lk rfl) (lk rfl) (w64 (by omega) (by omega))) rfl ?_
          refine Ops.u (Dtu.asg (lk rfl)) rfl ?_
          refine Ops.nil ?_
          refine Round.goK [3, 1, 0] ⟨i + 1, dg57, da57, dm57⟩ rfl rfl rfl ⟨rfl, trivial⟩ rfl rfl ⟨hlt1, ok2, hgi2⟩ (by dsimp only; omega)
    · refine Body.seq ?_
      refine Body.seq ?_
      refine Body.region ?_
      refine Ops.u (Dtu.mv (lk rfl)) rfl ?_
      refine Ops.u (Dtu.mv (lk rfl)) rfl ?_
      refine Ops.u (Dtu.lenS Try.underlying22 (Sl.up hv) (lk rfl)) rfl ?_
      refine Ops.u (Dtu.lss (lk rfl) (lk rfl)) rfl ?_
      refine Ops.u (Dtu.mv (lk rfl)) rfl ?_
      refine Ops.decP 44 rfl (fun c44 => ?_) (fun c44 => ?_)
      · refine Ops.gu rfl rfl rfl (Dtu.mv (lk rfl)) rfl ?_
        refine Ops.gu rfl rfl rfl (Dtu.lss (lk rfl) (lk rfl)) rfl ?_
        refine Ops.u (Dtu.pickT (lk rfl) (lk rfl)) rfl ?_
        refine Ops.nil ?_
        refine Then.next ?_
        refine Body.condP (lk rfl) (fun hy => absurd hy (by first | omega | assumption | decide)) (fun _ => ?_)
        refine Body.exit ?_
        refine Then.exit ?_
        refine Round.exit ?_
        refine Blk.here ?_
        refine Then.next ?_
        refine Body.seq ?_
        refine Body.drawE [0] mixed rfl ?_
        rintro E17' le17 ⟨hA17_0, -⟩
        have hv_17 := Sl.mono hv le17
        refine AE.more [0] (by decide +kernel) rfl ⟨?_, trivial⟩
        refine AEI.s rfl (Stp.call rfl Try.call14 (lks rfl) (fun E' le hat => alive17_ok E') ?_) rfl
        rintro _ _ ⟨rfl, rfl⟩
        refine AE.u 1 rfl (by decide +kernel) (Dtu.mv (lk rfl)) rfl ?_
        refine AE.gu 2 rfl (by decide +kernel) rfl rfl rfl (Dtu.mv (lk rfl)) rfl ?_
        refine AE.gd 4 rfl (by decide +kernel) rfl rfl rfl (Det.lda Try.isAgg29 Try.sizeOf29 (lk rfl) (Rds.at (m := 3) hA17_0 rfl) rfl) rfl ?_
        refine AE.more [3] (by decide +kernel) rfl ⟨?_, trivial⟩
        refine AEI.gs rfl rfl rfl rfl (Stp.callOwn [1] rfl rfl Try.call21 (lks rfl) (fun E' le hat => as17_ok E' _ _ (by first | assumption | omega) (by first | assumption | omega)) ?_) rfl
        rintro _ _ ⟨aa124, ac124, rfl, rfl⟩
        refine AE.more [5] (by decide +kernel) rfl ⟨?_, trivial⟩
        refine AEI.gs rfl rfl rfl rfl (Stp.call rfl Try.call20 (lks rfl) (fun E' le hat => rsame_ok E' _ _ _ _ (by first | assumption | omega) (by first | assumption | omega) (by first | exact Sl.mono (by assumption) le | exact Sl.at (hat _ (.head _)) | exact Sl.at (hat _ (.tail _ (.head _))) | exact Sl.at (hat _ (.tail _ (.tail _ (.head _)))) | exact Sl.at (hat _ (.tail _ (.tail _ (.tail _ (.head _))))) | exact Sl.at (hat _ (.tail _ (.tail _ (.tail _ (.tail _ (.head _)))))) | exact Sl.at (hat _ (.tail _ (.tail _ (.tail _ (.tail _ (.tail _ (.head _)))))))) (by first | exact Sl.mono (by assumption) le | exact Sl.at (hat _ (.head _)) | exact Sl.at (hat _ (.tail _ (.head _))) | exact Sl.at (hat _ (.tail _ (.tail _ (.head _)))) | exact Sl.at (hat _ (.tail _ (.tail _ (.tail _ (.head _))))) | exact Sl.at (hat _ (.tail _ (.tail _ (.tail _ (.tail _ (.head _)))))) | exact Sl.at (hat _ (.tail _ (.tail _ (.tail _ (.tail _ (.tail _ (.head _))))))))) ?_) rfl
        rintro _ _ ⟨rfl, rfl⟩
        refine AE.u 6 rfl (by decide +kernel) (Dtu.pickT (lk rfl) (lk rfl)) rfl ?_
        refine AE.u 7 rfl (by decide +kernel) (Dtu.asg (lk rfl)) rfl ?_
        refine AE.done (by decide +kernel) ?_
        refine Then.next ?_
        refine Body.ret ?_
        exact ⟨.inr rfl, _, pk [] rfl, by rw [fin]; rfl, rfl⟩
      · refine Ops.gn rfl rfl rfl rfl rfl ?_
        refine Ops.gn rfl rfl rfl rfl rfl ?_
        refine Ops.u (Dtu.pickF (lk rfl) (lk rfl)) rfl ?_
        refine Ops.nil ?_
        refine Then.next ?_
        refine Body.condF (lk rfl) ?_
        refine Body.exit ?_
        refine Then.exit ?_
        refine Round.exit ?_
        refine Blk.here ?_
        refine Then.next ?_
        refine Body.seq ?_
        refine Body.drawE [0] mixed rfl ?_
        rintro E17' le17 ⟨hA17_0, -⟩
        have hv_17 := Sl.mono hv le17
        refine AE.more [0] (by decide +kernel) rfl ⟨?_, trivial⟩
        refine AEI.s rfl (Stp.call rfl Try.call14 (lks rfl) (fun E' le hat => alive17_ok E') ?_) rfl
        rintro _ _ ⟨rfl, rfl⟩
        refine AE.u 1 rfl (by decide +kernel) (Dtu.mv (lk rfl)) rfl ?_
        refine AE.gu 2 rfl (by decide +kernel) rfl rfl rfl (Dtu.mv (lk rfl)) rfl ?_
        refine AE.gd 4 rfl (by decide +kernel) rfl rfl rfl (Det.lda Try.isAgg29 Try.sizeOf29 (lk rfl) (Rds.at (m := 3) hA17_0 rfl) rfl) rfl ?_
        refine AE.more [3] (by decide +kernel) rfl ⟨?_, trivial⟩
        refine AEI.gs rfl rfl rfl rfl (Stp.callOwn [1] rfl rfl Try.call21 (lks rfl) (fun E' le hat => as17_ok E' _ _ (by first | assumption | omega) (by first | assumption | omega)) ?_) rfl
        rintro _ _ ⟨aa124, ac124, rfl, rfl⟩
        refine AE.more [5] (by decide +kernel) rfl ⟨?_, trivial⟩
        refine AEI.gs rfl rfl rfl rfl (Stp.call rfl Try.call20 (lks rfl) (fun E' le hat => rsame_ok E' _ _ _ _ (by first | assumption | omega) (by first | assumption | omega) (by first | exact Sl.mono (by assumption) le | exact Sl.at (hat _ (.head _)) | exact Sl.at (hat _ (.tail _ (.head _))) | exact Sl.at (hat _ (.tail _ (.tail _ (.head _)))) | exact Sl.at (hat _ (.tail _ (.tail _ (.tail _ (.head _))))) | exact Sl.at (hat _ (.tail _ (.tail _ (.tail _ (.tail _ (.head _)))))) | exact Sl.at (hat _ (.tail _ (.tail _ (.tail _ (.tail _ (.tail _ (.head _)))))))) (by first | exact Sl.mono (by assumption) le | exact Sl.at (hat _ (.head _)) | exact Sl.at (hat _ (.tail _ (.head _))) | exact Sl.at (hat _ (.tail _ (.tail _ (.head _)))) | exact Sl.at (hat _ (.tail _ (.tail _ (.tail _ (.head _))))) | exact Sl.at (hat _ (.tail _ (.tail _ (.tail _ (.tail _ (.head _)))))) | exact Sl.at (hat _ (.tail _ (.tail _ (.tail _ (.tail _ (.tail _ (.head _))))))))) ?_) rfl
        rintro _ _ ⟨rfl, rfl⟩
        refine AE.u 6 rfl (by decide +kernel) (Dtu.pickT (lk rfl) (lk rfl)) rfl ?_
        refine AE.u 7 rfl (by decide +kernel) (Dtu.asg (lk rfl)) rfl ?_
        refine AE.done (by decide +kernel) ?_
        refine Then.next ?_
        refine Body.ret ?_
        exact ⟨.inr rfl, _, pk [] rfl, by rw [fin]; rfl, rfl⟩
end Go.Proofs.Ytpmapedhigjalaa
end
section
/- Calls as arguments, for the grid's statements. -/
namespace Go.Proofs.Ytpmapedhigjalaa
set_option maxRecDepth 100000
set_option linter.unusedVariables false
set_option linter.unusedSimpArgs false
open Go.Sx Go.ChangeShapes Go.RowKit
section
variable {H : Type} {enc : TypeId × Value → H} {W : World} {base : Nat} {held : Bool} {fuel : Nat} {cs : List Value} {x : DataW H × List MemPlace}
theorem trod_ops (h : DataW.trod enc Try.prog W base (fun _ => true) held fuel 22 cs = some x) : ∃ (s : Value) (l : List GOp), cs = [s] ∧ Sl (envOf W) [] 8 s l.length (l.flatMap GOp.enc) ∧ ∀ o ∈ l, o.c.In := by
  obtain ⟨s, l, h1, h2, h3⟩ := trod_list Try.underlying22 cells8_op (by omega) (fun _ => rfl) (fun h => trod_op h) h
  exact ⟨s, l, h1, h2, fun o ho => (h3 o ho).1⟩
end
end Go.Proofs.Ytpmapedhigjalaa
end
section
/- A grid behind calls. -/
namespace Go.Proofs.Ytpmapedhigjalaa
set_option maxRecDepth 100000
set_option maxHeartbeats 4000000
set_option linter.unusedVariables false
set_option linter.unusedSimpArgs false
open Go.Sx

theorem made17_no (E : Env) (rows cols : Int) (v : Value) (hf : fitsG rows cols = false) : Does Try.prog 22 #[.int .i64 rows, .int .i64 cols, v] E ([]) fun r H' => r = .pointer none ∧ H' = [] := by
  refine Does.go _ _ Try.func22 rfl Try.ntmps22 rfl rfl ?_
  refine Body.seq ?_
  refine Body.region ?_
  refine Ops.u (Dtu.asg (lk rfl)) rfl ?_
  refine Ops.nil ?_
  refine Then.next ?_
  refine Body.seq ?_
  refine Body.region ?_
  refine Ops.u (Dtu.mv (lk rfl)) rfl ?_
  refine Ops.u (Dtu.mv (lk rfl)) rfl ?_
  refine Ops.s (Stp.call rfl Try.call12 (lks rfl) (fun E' le hat => gnew_no E' _ _ (by assumption)) ?_) rfl
  rintro _ _ ⟨rfl, rfl⟩
  refine Ops.u (Dtu.mv (lk rfl)) rfl ?_
  refine Ops.u (Dtu.ext (lk rfl) rfl) rfl ?_
  refine Ops.u (Dtu.ext (lk rfl) rfl) rfl ?_
  refine Ops.u (Dtu.asg (lk rfl)) rfl ?_
  refine Ops.u (Dtu.asg (lk rfl)) rfl ?_
  refine Ops.nil ?_
  refine Then.next ?_
  refine Body.seq ?_
  refine Body.seq ?_
  refine Body.region ?_
  refine Ops.u (Dtu.mv (lk rfl)) rfl ?_
  refine Ops.u (Dtu.neq (lk rfl) (lk rfl)) rfl ?_
  refine Ops.u (Dtu.mv (lk rfl)) rfl ?_
  refine Ops.decP 19 rfl (fun _ => ?_) (fun hn => absurd (by first | omega | assumption | decide) hn)
  refine Ops.gn rfl rfl rfl rfl rfl ?_
  refine Ops.gn rfl rfl rfl rfl rfl ?_
  refine Ops.u (Dtu.pickT (lk rfl) (lk rfl)) rfl ?_
  refine Ops.nil ?_
  refine Then.next ?_
  refine Body.condT (lk rfl) ?_
  refine Body.seq ?_
  refine Body.region ?_
  refine Ops.u (Dtu.asg (lk rfl)) rfl ?_
  refine Ops.nil ?_
  refine Then.next ?_
  refine Body.ret ?_
  refine Then.ret ?_
  exact ⟨.inr rfl, _, pk [] rfl, rfl, rfl⟩
theorem made17_ok (E : Env) (rows cols : Int) (v : Value) (ops : List GOp) (hf : fitsG rows cols = true) (hin : ∀ o ∈ ops, o.c.In) (hv : Sl E [] 8 v ops.length (ops.flatMap GOp.enc)) : Does Try.prog 22 #[.int .i64 rows, .int .i64 cols, v] E ([]) fun r H' => ∃ b g, g.Ok ∧ g.In ∧ r = .pointer (some ⟨b, 0, none⟩) ∧ H' = [gridP b g] := by
  refine Does.pure hv.len fun hlen => ?_
  have ok0 := Gd.new_ok hf
  have in0 := Gd.new_in rows cols
  refine Does.go _ _ Try.func22 rfl Try.ntmps22 rfl rfl ?_
  refine Body.seq ?_
  refine Body.region ?_
  refine Ops.u (Dtu.asg (lk rfl)) rfl ?_
  refine Ops.nil ?_
  refine Then.next ?_
  refine Body.seq ?_
  refine Body.region ?_
  refine Ops.u (Dtu.mv (lk rfl)) rfl ?_
  refine Ops.u (Dtu.mv (lk rfl)) rfl ?_
  refine Ops.s (Stp.call rfl Try.call12 (lks rfl) (fun E' le hat => new_g E' _ _ (by first | assumption | omega)) ?_) rfl
  rintro _ _ ⟨nb14, rfl, rfl⟩
  refine Ops.u (Dtu.mv (lk rfl)) rfl ?_
  refine Ops.u (Dtu.ext (lk rfl) rfl) rfl ?_
  refine Ops.u (Dtu.ext (lk rfl) rfl) rfl ?_
  refine Ops.u (Dtu.asg (lk rfl)) rfl ?_
  refine Ops.u (Dtu.asg (lk rfl)) rfl ?_
  refine Ops.nil ?_
  refine Then.next ?_
  refine Body.seq ?_
  refine Body.seq ?_
  refine Body.region ?_
  refine Ops.u (Dtu.mv (lk rfl)) rfl ?_
  refine Ops.u (Dtu.neq (lk rfl) (lk rfl)) rfl ?_
  refine Ops.u (Dtu.mv (lk rfl)) rfl ?_
  refine Ops.decP 19 rfl (fun hy => absurd hy (by first | omega | assumption | decide)) (fun _ => ?_)
  refine Ops.gu rfl rfl rfl (Dtu.mv (lk rfl)) rfl ?_
  refine Ops.gu rfl rfl rfl (Dtu.eqNil Try.underlying23 (lk rfl) (lk rfl)) rfl ?_
  refine Ops.u (Dtu.pickF (lk rfl) (lk rfl)) rfl ?_
  refine Ops.nil ?_
  refine Then.next ?_
  refine Body.condF (lk rfl) ?_
  refine Body.skip ?_
  refine Then.next ?_
  refine Body.seq ?_
  refine Body.region ?_
  refine Ops.u (Dtu.mv (lk rfl)) rfl ?_
  refine Ops.s (Stp.callOwn [0] rfl rfl Try.call21 (lks rfl) (fun E' le hat => as17_ok E' _ _ (by first | assumption | omega) (by first | assumption | omega)) ?_) rfl
  rintro _ _ ⟨aa24, ac24, rfl, rfl⟩
  refine Ops.s (Stp.alloc ty29 (fun b9 => ?_)) rfl
  refine Ops.e (Stp.store 0 Try.sizeOf29 (lk rfl) (lk rfl) rfl rfl rfl rfl rfl rfl rfl ?_)
  refine Ops.nil ?_
  refine Then.next ?_
  refine Body.seq ?_
  refine Body.seq ?_
  refine Body.region ?_
  refine Ops.u (Dtu.asg (lk rfl)) rfl ?_
  refine Ops.nil ?_
  refine Then.next ?_
  refine Body.block ?_

  refine Body.loopH (γ := GLv) rfl (fun s => [(10, .int .i64 s.i)]) (fun s => [(0, own b9 [.int .i64 s.g.r, .int .i64 s.g.c, .slice s.a (s.g.r * s.g.c) s.c] 29), (1, gridP nb14 s.g), (2, osl 49 11 (.slice s.a (s.g.r * s.g.c) s.c) (s.g.r * s.g.c) (s.g.flat.flatMap Cell.renc))]) (fun s => s.i ≤ ops.length ∧ s.g.Ok ∧ s.g.In) (fun s => ops.length - s.i) (⟨0, Gd.new rows cols, aa24, ac24⟩) (⟨Nat.zero_le _, ok0, in0⟩) ⟨rfl, trivial⟩ rfl ?_
  rintro ⟨i, g, a, c⟩ u ⟨hi, ok, hgi⟩
  dsimp only at hi ok hgi ⊢
  by_cases hlt : i < ops.length ∧ i < 30
  · have hlt1 := hlt.1
    have ho : ops[i]! ∈ ops := by rw [getElem!_pos ops i hlt.1]; exact List.getElem_mem _
    have hoi := hin _ ho
    have ho1 := hoi.1
    have ho2 := hoi.2.1
    refine Body.seq ?_
    refine Body.seq ?_
    refine Body.region ?_
    refine Ops.u (Dtu.mv (lk rfl)) rfl ?_
    refine Ops.u (Dtu.mv (lk rfl)) rfl ?_
    refine Ops.u (Dtu.lenS Try.underlying22 (Sl.up hv) (lk rfl)) rfl ?_
    refine Ops.u (Dtu.lss (lk rfl) (lk rfl)) rfl ?_
    refine Ops.u (Dtu.mv (lk rfl)) rfl ?_
    refine Ops.decP 29 rfl (fun _ => ?_) (fun hn => absurd (by first | omega | assumption | decide) hn)
    refine Ops.gu rfl rfl rfl (Dtu.mv (lk rfl)) rfl ?_
    refine Ops.gu rfl rfl rfl (Dtu.lss (lk rfl) (lk rfl)) rfl ?_
    refine Ops.u (Dtu.pickT (lk rfl) (lk rfl)) rfl ?_
    refine Ops.nil ?_
    refine Then.next ?_
    refine Body.condP (lk rfl) (fun _ => ?_) (fun hn => absurd (by first | omega | assumption | decide) hn)
    refine Body.skip ?_
    refine Then.next ?_
    refine Body.seq ?_
    refine Body.block ?_
    refine Body.draw mixed ?_
    refine AB.u 0 rfl (by decide +kernel) (Dtu.mv (lk rfl)) rfl ?_
    refine AB.d 1 rfl (by decide +kernel) rfl (Det.lda Try.isAgg29 Try.sizeOf29 (lk rfl) (Rds.ow (m := 3) 0 rfl rfl) rfl) rfl ?_
    refine AB.u 2 rfl (by decide +kernel) (Dtu.mv (lk rfl)) rfl ?_
    refine AB.u 3 rfl (by decide +kernel) (Dtu.mv (lk rfl)) rfl ?_
    refine AB.u 4 rfl (by decide +kernel) (Dtu.ix (i := (i)) Try.underlying22 Try.sizeOf41 (Sl.up hv) (lk rfl) (lk rfl) (by omega) (by omega)) rfl ?_
    refine AB.d 5 rfl (by decide +kernel) rfl (Det.lda Try.isAgg41 Try.sizeOf41 (lk rfl) (Rds.sl (Sl.up hv) (gf (sz := 8) (fun _ => rfl) (by omega))) rfl) rfl ?_
    refine AB.s 6 rfl (by decide +kernel) (by decide +kernel) (Stp.callOwn [1, 1] rfl rfl Try.call15 (lks rfl) (fun E' le hat => do17_ok E' _ _ _ _ _ _ _ _ _ _ _ _ (by first | assumption | omega) (by first | assumption | omega) (by first | assumption | omega)) ?_) rfl
    rintro _ _ ⟨da42, dm42, dg42, hdg42, rfl, rfl⟩
    refine AB.u 7 rfl (by decide +kernel) (Dtu.mv (lk rfl)) rfl ?_
    refine AB.u 8 rfl (by decide +kernel) (Dtu.ext (lk rfl) rfl) rfl ?_
    refine AB.u 9 rfl (by decide +kernel) (Dtu.ext (lk rfl) rfl) rfl ?_
    refine AB.e 10 rfl (by decide +kernel) (by decide +kernel) (Stp.store 2 Try.sizeOf29 (lk rfl) (lk rfl) rfl rfl rfl rfl rfl rfl rfl ?_)
    refine AB.done (by decide +kernel) ?_
    refine Blk.norm ?_
    refine Then.next ?_
    refine Body.region ?_
    refine Ops.u (Dtu.mv (lk rfl)) rfl ?_
    refine Ops.u (Dtu.add (lk rfl) (lk rfl) (w64 (by omega) (by omega))) rfl ?_
    refine Ops.u (Dtu.asg (lk rfl)) rfl ?_
    refine Ops.nil ?_
    have ok2 : dg42.Ok := by rw [hdg42]; exact Gd.op_ok ok ops[i]!
    have hgi2 : dg42.In := by rw [hdg42]; exact Gd.op_in hgi ops[i]! hoi
    refine Round.goK [2, 0, 0] ⟨i + 1, dg42, da42, dm42⟩ rfl rfl rfl ⟨rfl, trivial⟩ rfl rfl ⟨hlt1, ok2, hgi2⟩ (by dsimp only; omega)
  · refine Body.seq ?_
    refine Body.seq ?_
    refine Body.region ?_
    refine Ops.u (Dtu.mv (lk rfl)) rfl ?_
    refine Ops.u (Dtu.mv (lk rfl)) rfl ?_
    refine Ops.u (Dtu.lenS Try.underlying22 (Sl.up hv) (lk rfl)) rfl ?_
    refine Ops.u (Dtu.lss (lk rfl) (lk rfl)) rfl ?_
    refine Ops.u (Dtu.mv (lk rfl)) rfl ?_
    refine Ops.decP 29 rfl (fun c29 => ?_) (fun c29 => ?_)
    · refine Ops.gu rfl rfl rfl (Dtu.mv (lk rfl)) rfl ?_
      refine Ops.gu rfl rfl rfl (Dtu.lss (lk rfl) (lk rfl)) rfl ?_
      refine Ops.u (Dtu.pickT (lk rfl) (lk rfl)) rfl ?_
      refine Ops.nil ?_
      refine Then.next ?_
      refine Body.condP (lk rfl) (fun hy => absurd hy (by first | omega | assumption | decide)) (fun _ => ?_)
      refine Body.exit ?_
      refine Then.exit ?_
      refine Round.exit ?_
      refine Blk.here ?_
      refine Then.next ?_
      refine Body.seq ?_
      refine Body.region ?_
      refine Ops.u (Dtu.mv (lk rfl)) rfl ?_
      refine Ops.u (Dtu.asg (lk rfl)) rfl ?_
      refine Ops.nil ?_
      refine Then.next ?_
      refine Body.ret ?_
      exact ⟨.inr rfl, _, pk [1] rfl, nb14, g, ok, hgi, rfl, rfl⟩
    · refine Ops.gn rfl rfl rfl rfl rfl ?_
      refine Ops.gn rfl rfl rfl rfl rfl ?_
      refine Ops.u (Dtu.pickF (lk rfl) (lk rfl)) rfl ?_
      refine Ops.nil ?_
      refine Then.next ?_
      refine Body.condF (lk rfl) ?_
      refine Body.exit ?_
      refine Then.exit ?_
      refine Round.exit ?_
      refine Blk.here ?_
      refine Then.next ?_
      refine Body.seq ?_
      refine Body.region ?_
      refine Ops.u (Dtu.mv (lk rfl)) rfl ?_
      refine Ops.u (Dtu.asg (lk rfl)) rfl ?_
      refine Ops.nil ?_
      refine Then.next ?_
      refine Body.ret ?_
      exact ⟨.inr rfl, _, pk [1] rfl, nb14, g, ok, hgi, rfl, rfl⟩
end Go.Proofs.Ytpmapedhigjalaa
end
section
/- GridMoves: the walk. -/
namespace Go.Proofs.Ytpmapedhigjalaa
set_option maxRecDepth 100000
set_option maxHeartbeats 4000000
set_option linter.unusedVariables false
set_option linter.unusedSimpArgs false
open Go.Sx

theorem updown {g : Gd} (ok : g.Ok) {t u n : Int} (h : g.rows t u n) : ∃ G : Gd, (g.up t u n (Go.Proofs.Ytpmapedhigjalaa.Cell.mk 32 0 0 0)).down t u n (Go.Proofs.Ytpmapedhigjalaa.Cell.mk 32 0 0 0) = G ∧ G.r = g.r ∧ G.c = g.c ∧ ∀ i k, G.f i k = if t ≤ (i : Int) ∧ (i : Int) ≤ u ∧ (i : Int) - t < n then (Go.Proofs.Ytpmapedhigjalaa.Cell.mk 32 0 0 0) else g.f i k := by
  have h' : (g.up t u n (Go.Proofs.Ytpmapedhigjalaa.Cell.mk 32 0 0 0)).rows t u n := by rw [Gd.up, if_pos h]; exact h
  refine ⟨_, rfl, ?_, ?_, fun i k => ?_⟩
  · rw [Gd.down, if_pos h', Gd.up, if_pos h]
  · rw [Gd.down, if_pos h', Gd.up, if_pos h]
  · rw [Gd.down, if_pos h', Gd.up, if_pos h]
    obtain ⟨h1, h2, h3, h4⟩ := h
    dsimp only
    by_cases hA : t ≤ (i : Int) ∧ (i : Int) ≤ u
    · rw [if_pos hA]
      by_cases hB : t ≤ (i : Int) - n
      · have e : (((i : Int) - n).toNat : Int) = i - n := by omega
        rw [if_pos hB, e, if_pos (by omega), if_pos (by omega), show ((i : Int) - n + n).toNat = i by omega, if_neg (by omega)]
      · rw [if_neg hB, if_pos (by omega)]
    · rw [if_neg hA, if_neg (by omega), if_neg (by omega)]
theorem insdel {g : Gd} (ok : g.Ok) {t u n : Int} (h : g.has t u ∧ 0 ≤ n) : ∃ G : Gd, (g.ins t u n (Go.Proofs.Ytpmapedhigjalaa.Cell.mk 32 0 0 0)).del t u n (Go.Proofs.Ytpmapedhigjalaa.Cell.mk 32 0 0 0) = G ∧ G.r = g.r ∧ G.c = g.c ∧ ∀ i k, k < g.c → G.f i k = if (i : Int) = t ∧ u ≤ (k : Int) ∧ (g.c : Int) - k ≤ n then (Go.Proofs.Ytpmapedhigjalaa.Cell.mk 32 0 0 0) else g.f i k := by
  have h' : (g.ins t u n (Go.Proofs.Ytpmapedhigjalaa.Cell.mk 32 0 0 0)).has t u ∧ 0 ≤ n := by rw [Gd.ins, if_pos h]; exact h
  refine ⟨_, rfl, ?_, ?_, fun i k hk => ?_⟩
  · rw [Gd.del, if_pos h', Gd.ins, if_pos h]
  · rw [Gd.del, if_pos h', Gd.ins, if_pos h]
  · rw [Gd.del, if_pos h', Gd.ins, if_pos h]
    obtain ⟨⟨h1, h2, h3, h4⟩, h5⟩ := h
    dsimp only
    by_cases hA : (i : Int) = t ∧ u ≤ (k : Int)
    · rw [if_pos hA]
      by_cases hB : (k : Int) + n < g.c
      · have e : (((k : Int) + n).toNat : Int) = k + n := by omega
        rw [if_pos hB, e, if_pos (by omega), if_pos (by omega), show ((k : Int) + n - n).toNat = k by omega, if_neg (by omega)]
      · rw [if_neg hB, if_pos (by omega)]
    · rw [if_neg hA, if_neg (by omega), if_neg (by omega)]
/-- what is lost -/
def lostB (p q r : Prop) [Decidable p] [Decidable q] [Decidable r] : Bool := decide (p ∧ q ∧ r)
theorem moves17_ok (E : Env) (rows cols : Int) (v : Value) (ops : List GOp) (t u n row col m : Int) (hin : ∀ o ∈ ops, o.c.In) (hv : Sl E [] 8 v ops.length (ops.flatMap GOp.enc)) : Does Try.prog 4 #[.int .i64 rows, .int .i64 cols, v, .int .i64 t, .int .i64 u, .int .i64 n, .int .i64 row, .int .i64 col, .int .i64 m] E ([]) fun r H' => r = .bool true ∧ H' = [] := by
  refine Does.pure hv.len fun hlen => ?_
  cases hf : fitsG rows cols
  · refine Does.go _ _ Try.func4 rfl Try.ntmps4 rfl rfl ?_
    refine Body.seq ?_
    refine Body.region ?_
    refine Ops.u (Dtu.asg (lk rfl)) rfl ?_
    refine Ops.nil ?_
    refine Then.next ?_
    refine Body.seq ?_
    refine Body.region ?_
    refine Ops.u (Dtu.mv (lk rfl)) rfl ?_
    refine Ops.u (Dtu.mv (lk rfl)) rfl ?_
    refine Ops.u (Dtu.mv (lk rfl)) rfl ?_
    refine Ops.s (Stp.call rfl Try.call22 (lks rfl) (fun E' le hat => made17_no E' _ _ _ (by first | assumption | omega)) ?_) rfl
    rintro _ _ ⟨rfl, rfl⟩
    refine Ops.u (Dtu.asg (lk rfl)) rfl ?_
    refine Ops.nil ?_
    refine Then.next ?_
    refine Body.seq ?_
    refine Body.seq ?_
    refine Body.region ?_
    refine Ops.u (Dtu.mv (lk rfl)) rfl ?_
    refine Ops.u (Dtu.eqNil Try.underlying23 (lk rfl) (lk rfl)) rfl ?_
    refine Ops.u (Dtu.mv (lk rfl)) rfl ?_
    refine Ops.gn rfl rfl rfl rfl rfl ?_
    refine Ops.gn rfl rfl rfl rfl rfl ?_
    refine Ops.u (Dtu.pickT (lk rfl) (lk rfl)) rfl ?_
    refine Ops.u (Dtu.mv (lk rfl)) rfl ?_
    refine Ops.gn rfl rfl rfl rfl rfl ?_
    refine Ops.gn rfl rfl rfl rfl rfl ?_
    refine Ops.u (Dtu.pickT (lk rfl) (lk rfl)) rfl ?_
    refine Ops.nil ?_
    refine Then.next ?_
    refine Body.condT (lk rfl) ?_
    refine Body.seq ?_
    refine Body.region ?_
    refine Ops.s (Stp.call rfl Try.call14 (lks rfl) (fun E' le hat => alive17_ok E') ?_) rfl
    rintro _ _ ⟨rfl, rfl⟩
    refine Ops.u (Dtu.asg (lk rfl)) rfl ?_
    refine Ops.nil ?_
    refine Then.next ?_
    refine Body.ret ?_
    refine Then.ret ?_
    exact ⟨.inr rfl, _, pk [] rfl, rfl, rfl⟩
  · by_cases hnm : 0 ≤ n ∧ 0 ≤ m
    · refine Does.go _ _ Try.func4 rfl Try.ntmps4 rfl rfl ?_
      refine Body.seq ?_
      refine Body.region ?_
      refine Ops.u (Dtu.asg (lk rfl)) rfl ?_
      refine Ops.nil ?_
      refine Then.next ?_
      refine Body.seq ?_
      refine Body.region ?_
      refine Ops.u (Dtu.mv (lk rfl)) rfl ?_
      refine Ops.u (Dtu.mv (lk rfl)) rfl ?_
      refine Ops.u (Dtu.mv (lk rfl)) rfl ?_
      refine Ops.s (Stp.call rfl Try.call22 (lks rfl) (fun E' le hat => made17_ok E' _ _ _ _ (by first | assumption | omega) (by first | assumption | omega) (by first | exact Sl.mono (by assumption) le | exact Sl.at (hat _ (.head _)) | exact Sl.at (hat _ (.tail _ (.head _))) | exact Sl.at (hat _ (.tail _ (.tail _ (.head _)))) | exact Sl.at (hat _ (.tail _ (.tail _ (.tail _ (.head _))))) | exact Sl.at (hat _ (.tail _ (.tail _ (.tail _ (.tail _ (.head _)))))) | exact Sl.at (hat _ (.tail _ (.tail _ (.tail _ (.tail _ (.tail _ (.head _))))))))) ?_) rfl
      rintro _ _ ⟨mb32, mg32, mok32, min32, rfl, rfl⟩
      refine Ops.u (Dtu.asg (lk rfl)) rfl ?_
      refine Ops.nil ?_
      refine Then.next ?_
      refine Body.seq ?_
      refine Body.seq ?_
      refine Body.region ?_
      refine Ops.u (Dtu.mv (lk rfl)) rfl ?_
      refine Ops.u (Dtu.eqNil Try.underlying23 (lk rfl) (lk rfl)) rfl ?_
      refine Ops.u (Dtu.mv (lk rfl)) rfl ?_
      refine Ops.gu rfl rfl rfl (Dtu.mv (lk rfl)) rfl ?_
      refine Ops.gu rfl rfl rfl (Dtu.lss (lk rfl) (lk rfl)) rfl ?_
      refine Ops.u (Dtu.pickF (lk rfl) (lk rfl)) rfl ?_
      refine Ops.u (Dtu.mv (lk rfl)) rfl ?_
      refine Ops.decP 39 rfl (fun hy => absurd hy (by first | omega | assumption | decide)) (fun _ => ?_)
      refine Ops.gu rfl rfl rfl (Dtu.mv (lk rfl)) rfl ?_
      refine Ops.gu rfl rfl rfl (Dtu.lss (lk rfl) (lk rfl)) rfl ?_
      refine Ops.u (Dtu.pickF (lk rfl) (lk rfl)) rfl ?_
      refine Ops.nil ?_
      refine Then.next ?_
      refine Body.condP (lk rfl) (fun hy => absurd hy (by first | omega | assumption | decide)) (fun _ => ?_)
      refine Body.skip ?_
      refine Then.next ?_
      refine Body.seq ?_
      refine Body.region ?_
      refine Ops.u (Dtu.mv (lk rfl)) rfl ?_
      refine Ops.s (Stp.callOwn [0] rfl rfl Try.call21 (lks rfl) (fun E' le hat => as17_ok E' _ _ (by first | assumption | omega) (by first | assumption | omega)) ?_) rfl
      rintro _ _ ⟨aa45, ac45, rfl, rfl⟩
      refine Ops.s (Stp.alloc ty29 (fun b20 => ?_)) rfl
      refine Ops.e (Stp.store 0 Try.sizeOf29 (lk rfl) (lk rfl) rfl rfl rfl rfl rfl rfl rfl ?_)
      refine Ops.nil ?_
      refine Then.next ?_
      have hb := mok32.r
      have hc := mok32.c
      have bin : (Go.Proofs.Ytpmapedhigjalaa.Cell.mk 32 0 0 0).In := by unfold Cell.In; decide
      refine Body.seqJH (γ := Gd) rfl (fun z => []) (fun z => [(1, gridP mb32 z)]) (fun z => z.Ok ∧ z.In) ?_ ?_
      · by_cases hr : mg32.rows t u n
        · have e1 := erI_pos hr
          have hrr : 0 ≤ t ∧ t ≤ u ∧ u < mg32.r ∧ 0 ≤ n := hr
          obtain ⟨G, hG, hGr, hGc, hGf⟩ := updown mok32 hr
          have hr2 : (mg32.up t u n (Go.Proofs.Ytpmapedhigjalaa.Cell.mk 32 0 0 0)).rows t u n := by rw [Gd.up, if_pos hr]; exact hr
          have e2 := erI_pos hr2
          have gok : G.Ok := by rw [← hG]; exact Gd.op_ok (Gd.op_ok mok32 ⟨2, t, u, n, (Go.Proofs.Ytpmapedhigjalaa.Cell.mk 32 0 0 0)⟩) ⟨3, t, u, n, (Go.Proofs.Ytpmapedhigjalaa.Cell.mk 32 0 0 0)⟩
          have gin : G.In := by rw [← hG]; exact Gd.op_in (Gd.op_in min32 ⟨2, t, u, n, (Go.Proofs.Ytpmapedhigjalaa.Cell.mk 32 0 0 0)⟩ bin) ⟨3, t, u, n, (Go.Proofs.Ytpmapedhigjalaa.Cell.mk 32 0 0 0)⟩ bin
          refine Body.seq ?_
          refine Body.region ?_
          refine Ops.u (Dtu.mv (lk rfl)) rfl ?_
          refine Ops.u (Dtu.mv (lk rfl)) rfl ?_
          refine Ops.u (Dtu.mv (lk rfl)) rfl ?_
          refine Ops.u (Dtu.mv (lk rfl)) rfl ?_
          refine Ops.s (Stp.call rfl Try.call24 (lks rfl) (fun E' le hat => blank_ok E') ?_) rfl
          rintro _ _ ⟨rfl, rfl⟩
          refine Ops.s (Stp.callOwn [1] rfl rfl Try.call23 (lks rfl) (fun E' le hat => up_g E' _ _ _ _ _ _ _ _ _) ?_) rfl
          rintro _ _ ⟨rfl, rfl⟩
          refine Ops.u (Dtu.eql (lk rfl) (lk rfl)) rfl ?_
          refine Ops.nil ?_
          refine Then.next ?_
          refine Body.condP (lk rfl) (fun _ => ?_) (fun hn => absurd (by first | omega | assumption | decide) hn)
          refine Body.seq ?_
          refine Body.seq ?_
          refine Body.region ?_
          refine Ops.u (Dtu.mv (lk rfl)) rfl ?_
          refine Ops.u (Dtu.mv (lk rfl)) rfl ?_
          refine Ops.u (Dtu.mv (lk rfl)) rfl ?_
          refine Ops.u (Dtu.mv (lk rfl)) rfl ?_
          refine Ops.s (Stp.call rfl Try.call24 (lks rfl) (fun E' le hat => blank_ok E') ?_) rfl
          rintro _ _ ⟨rfl, rfl⟩
          refine Ops.s (Stp.callOwn [0] rfl rfl Try.call25 (lks rfl) (fun E' le hat => down_g E' _ _ _ _ _ _ _ _ _) ?_) rfl
          rintro _ _ ⟨rfl, rfl⟩
          refine Ops.u (Dtu.neq (lk rfl) (lk rfl)) rfl ?_
          refine Ops.nil ?_
          refine Then.next ?_
          refine Body.condP (lk rfl) (fun hy => absurd hy (by first | omega | assumption | decide)) (fun _ => ?_)
          refine Body.skip ?_
          refine Then.next ?_
          refine Body.seq ?_
          refine Body.region ?_
          refine Ops.u (Dtu.mv (lk rfl)) rfl ?_
          rw [hG]
          refine Ops.s (Stp.callOwn [0] rfl rfl Try.call21 (lks rfl) (fun E' le hat => as17_ok E' _ _ (by first | assumption | omega) (by first | assumption | omega)) ?_) rfl
          rintro _ _ ⟨aa61, ac61, rfl, rfl⟩
          refine Ops.s (Stp.alloc ty29 (fun b21 => ?_)) rfl
          refine Ops.e (Stp.store 0 Try.sizeOf29 (lk rfl) (lk rfl) rfl rfl rfl rfl rfl rfl rfl ?_)
          refine Ops.nil ?_
          refine Then.next ?_
          refine Body.seq ?_
          refine Body.region ?_
          refine Ops.u (Dtu.asg (lk rfl)) rfl ?_
          refine Ops.nil ?_
          refine Then.next ?_
          refine Body.block ?_
          refine Body.loopH (γ := Nat) rfl (fun i => [(22, .int .i64 i)]) (fun i => []) (fun i => i ≤ mg32.r) (fun i => mg32.r - i) (0) (Nat.zero_le _) ⟨rfl, trivial⟩ rfl ?_
          rintro i u0 hi
          by_cases hlt : i < mg32.r
          · refine Body.seq ?_
            refine Body.seq ?_
            refine Body.region ?_
            refine Ops.u (Dtu.mv (lk rfl)) rfl ?_
            refine Ops.u (Dtu.fld fa29_0 (lk rfl)) rfl ?_
            refine Ops.d (Det.ld Try.isAgg3 (lk rfl) (Rd.ow 3 rfl rfl)) rfl ?_
            refine Ops.u (Dtu.lss (lk rfl) (lk rfl)) rfl ?_
            refine Ops.nil ?_
            refine Then.next ?_
            refine Body.condP (lk rfl) (fun _ => ?_) (fun hn => absurd (by first | omega | assumption | decide) hn)
            refine Body.skip ?_
            refine Then.next ?_
            refine Body.seq ?_
            refine Body.block ?_
            refine Body.seq ?_
            refine Body.region ?_
            refine Ops.u (Dtu.asg (lk rfl)) rfl ?_
            refine Ops.nil ?_
            refine Then.next ?_
            refine Body.block ?_
            refine Body.loopH (γ := Nat) rfl (fun k => [(23, .int .i64 k)]) (fun k => []) (fun k => k ≤ mg32.c) (fun k => mg32.c - k) (0) (Nat.zero_le _) ⟨rfl, trivial⟩ rfl ?_
            rintro k u1 hk
            by_cases hkt : k < mg32.c
            · have hasM : mg32.has i k := ⟨by omega, by omega, by omega, by omega⟩
              have hasG : G.has i k := ⟨by omega, by omega, by omega, by omega⟩
              have hg := hGf i k
              by_cases hlost : t ≤ (i : Int) ∧ (i : Int) ≤ u ∧ (i : Int) - t < n
              · rw [if_pos hlost] at hg
                have hq : rEq (G.f (i : Int).toNat (k : Int).toNat) (Go.Proofs.Ytpmapedhigjalaa.Cell.mk 32 0 0 0) = true := by
                  show rEq (G.f i k) _ = _
                  rw [hg]; exact rEq_self _
                refine Body.seq ?_
                refine Body.seq ?_
                refine Body.region ?_
                refine Ops.u (Dtu.mv (lk rfl)) rfl ?_
                refine Ops.u (Dtu.fld fa29_1 (lk rfl)) rfl ?_
                refine Ops.d (Det.ld Try.isAgg3 (lk rfl) (Rd.ow 3 rfl rfl)) rfl ?_
                refine Ops.u (Dtu.lss (lk rfl) (lk rfl)) rfl ?_
                refine Ops.nil ?_
                refine Then.next ?_
                refine Body.condP (lk rfl) (fun _ => ?_) (fun hn => absurd (by first | omega | assumption | decide) hn)
                refine Body.skip ?_
                refine Then.next ?_
                refine Body.seq ?_
                refine Body.block ?_
                refine Body.seq ?_
                refine Body.region ?_
                refine Ops.u (Dtu.mv (lk rfl)) rfl ?_
                refine Ops.u (Dtu.mv (lk rfl)) rfl ?_
                refine Ops.u (Dtu.geq (lk rfl) (lk rfl)) rfl ?_
                refine Ops.u (Dtu.mv (lk rfl)) rfl ?_
                refine Ops.decP 77 rfl (fun _ => ?_) (fun hn => absurd (by first | omega | assumption | decide) hn)
                refine Ops.gu rfl rfl rfl (Dtu.mv (lk rfl)) rfl ?_
                refine Ops.gu rfl rfl rfl (Dtu.mv (lk rfl)) rfl ?_
                refine Ops.gu rfl rfl rfl (Dtu.leq (lk rfl) (lk rfl)) rfl ?_
                refine Ops.u (Dtu.pickT (lk rfl) (lk rfl)) rfl ?_
                refine Ops.u (Dtu.mv (lk rfl)) rfl ?_
                refine Ops.decP 82 rfl (fun _ => ?_) (fun hn => absurd (by first | omega | assumption | decide) hn)
                refine Ops.gu rfl rfl rfl (Dtu.mv (lk rfl)) rfl ?_
                refine Ops.gu rfl rfl rfl (Dtu.mv (lk rfl)) rfl ?_
                refine Ops.gu rfl rfl rfl (Dtu.sub (lk rfl) (lk rfl) (w64 (by omega) (by omega))) rfl ?_
                refine Ops.gu rfl rfl rfl (Dtu.mv (lk rfl)) rfl ?_
                refine Ops.gu rfl rfl rfl (Dtu.lss (lk rfl) (lk rfl)) rfl ?_
                refine Ops.u (Dtu.pickT (lk rfl) (lk rfl)) rfl ?_
                refine Ops.u (Dtu.asg (lk rfl)) rfl ?_
                refine Ops.nil ?_
                refine Then.next ?_
                refine Body.seq ?_
                refine Body.drawE [0, 2] mixed rfl ?_
                rintro E16' le16 ⟨hA16_0, hA16_1, -⟩
                have hv_16 := Sl.mono hv le16
                refine AE.u 0 rfl (by decide +kernel) (Dtu.mv (lk rfl)) rfl ?_
                refine AE.u 1 rfl (by decide +kernel) (Dtu.notP (lk rfl)) rfl ?_
                refine AE.u 2 rfl (by decide +kernel) (Dtu.mv (lk rfl)) rfl ?_
                refine AE.decP 91 rfl (fun hy => absurd hy (by first | omega | assumption | decide)) (fun _ => ?_)
                refine AE.gn 3 rfl (by decide +kernel) rfl rfl rfl rfl rfl ?_
                refine AE.gn 4 rfl (by decide +kernel) rfl rfl rfl rfl rfl ?_
                refine AE.gn 5 rfl (by decide +kernel) rfl rfl rfl rfl rfl ?_
                refine AE.gn 6 rfl (by decide +kernel) rfl rfl rfl rfl rfl ?_
                refine AE.gn 7 rfl (by decide +kernel) rfl rfl rfl rfl rfl ?_
                refine AE.gn 8 rfl (by decide +kernel) rfl rfl rfl rfl rfl ?_
                refine AE.gn 9 rfl (by decide +kernel) rfl rfl rfl rfl rfl ?_
                refine AE.gn 10 rfl (by decide +kernel) rfl rfl rfl rfl rfl ?_
                refine AE.gn 11 rfl (by decide +kernel) rfl rfl rfl rfl rfl ?_
                refine AE.u 12 rfl (by decide +kernel) (Dtu.pickF (lk rfl) (lk rfl)) rfl ?_
                refine AE.u 13 rfl (by decide +kernel) (Dtu.mv (lk rfl)) rfl ?_
                refine AE.gu 14 rfl (by decide +kernel) rfl rfl rfl (Dtu.mv (lk rfl)) rfl ?_
                refine AE.gu 15 rfl (by decide +kernel) rfl rfl rfl (Dtu.mv (lk rfl)) rfl ?_
                refine AE.decP 104 rfl (fun _ => ?_) (fun hn => absurd (by first | omega | assumption | decide) hn)
                refine AE.gd 16 rfl (by decide +kernel) rfl rfl rfl (Det.lda Try.isAgg29 Try.sizeOf29 (lk rfl) (Rds.at (m := 3) hA16_0 rfl) rfl) rfl ?_
                refine AE.gu 17 rfl (by decide +kernel) rfl rfl rfl (Dtu.mv (lk rfl)) rfl ?_
                refine AE.gu 18 rfl (by decide +kernel) rfl rfl rfl (Dtu.mv (lk rfl)) rfl ?_
                refine AE.more [19] (by decide +kernel) rfl ⟨?_, trivial⟩
                refine AEI.gs rfl rfl rfl rfl (Stp.call rfl Try.call19 (lks rfl) (fun E' le hat => rat_g E' _ _ _ _ (by first | assumption | omega) (by first | assumption | omega) (by first | exact Sl.mono (by assumption) le | exact Sl.at (hat _ (.head _)) | exact Sl.at (hat _ (.tail _ (.head _))) | exact Sl.at (hat _ (.tail _ (.tail _ (.head _)))) | exact Sl.at (hat _ (.tail _ (.tail _ (.tail _ (.head _))))) | exact Sl.at (hat _ (.tail _ (.tail _ (.tail _ (.tail _ (.head _)))))) | exact Sl.at (hat _ (.tail _ (.tail _ (.tail _ (.tail _ (.tail _ (.head _))))))))) ?_) rfl
                rintro _ _ ⟨rfl, rfl⟩
                refine AE.more [20] (by decide +kernel) rfl ⟨?_, trivial⟩
                refine AEI.gs rfl rfl rfl rfl (Stp.call rfl Try.call24 (lks rfl) (fun E' le hat => blank_ok E') ?_) rfl
                rintro _ _ ⟨rfl, rfl⟩
                refine AE.more [21] (by decide +kernel) rfl ⟨?_, trivial⟩
                refine AEI.gs rfl rfl rfl rfl (Stp.call rfl Try.call18 (lks rfl) (fun E' le hat => cell17_ok E' _ _ _ _ (by first | assumption | omega) (by first | assumption | omega)) ?_) rfl
                rintro _ _ ⟨rfl, rfl⟩
                refine AE.gu 22 rfl (by decide +kernel) rfl rfl rfl (Dtu.neS eqGuard49 (eq49b _ _ _ _ _) (lk rfl) (lk rfl)) rfl ?_
                refine AE.gu 23 rfl (by decide +kernel) rfl rfl rfl (Dtu.pickT (lk rfl) (lk rfl)) rfl ?_
                refine AE.u 24 rfl (by decide +kernel) (Dtu.pickF (lk rfl) (lk rfl)) rfl ?_
                refine AE.done (by decide +kernel) ?_
                refine Then.next ?_
                refine Body.cond (lk rfl) (fun hn => absurd hn (by first | (rw [hq]; decide) | simp [hq])) (fun _ => ?_)
                refine Body.skip ?_
                refine Blk.norm ?_
                refine Then.next ?_
                refine Body.region ?_
                refine Ops.u (Dtu.mv (lk rfl)) rfl ?_
                refine Ops.u (Dtu.add (lk rfl) (lk rfl) (w64 (by omega) (by omega))) rfl ?_
                refine Ops.u (Dtu.asg (lk rfl)) rfl ?_
                refine Ops.nil ?_
                refine Round.goK [3, 0, 0, 1, 0] (k + 1) rfl rfl rfl ⟨rfl, trivial⟩ rfl rfl (by omega) (by omega)
              · rw [if_neg hlost] at hg
                have hq : rEq (G.f (i : Int).toNat (k : Int).toNat) (mg32.f (i : Int).toNat (k : Int).toNat) = true := by
                  show rEq (G.f i k) (mg32.f i k) = _
                  rw [hg]; exact rEq_self _
                refine Body.seq ?_
                refine Body.seq ?_
                refine Body.region ?_
                refine Ops.u (Dtu.mv (lk rfl)) rfl ?_
                refine Ops.u (Dtu.fld fa29_1 (lk rfl)) rfl ?_
                refine Ops.d (Det.ld Try.isAgg3 (lk rfl) (Rd.ow 3 rfl rfl)) rfl ?_
                refine Ops.u (Dtu.lss (lk rfl) (lk rfl)) rfl ?_
                refine Ops.nil ?_
                refine Then.next ?_
                refine Body.condP (lk rfl) (fun _ => ?_) (fun hn => absurd (by first | omega | assumption | decide) hn)
                refine Body.skip ?_
                refine Then.next ?_
                refine Body.seq ?_
                refine Body.block ?_
                refine Body.seq ?_
                refine Body.region ?_
                refine Ops.u (Dtu.mv (lk rfl)) rfl ?_
                refine Ops.u (Dtu.mv (lk rfl)) rfl ?_
                refine Ops.u (Dtu.geq (lk rfl) (lk rfl)) rfl ?_
                refine Ops.u (Dtu.mv (lk rfl)) rfl ?_
                refine Ops.decP 77 rfl (fun c77 => ?_) (fun c77 => ?_)
                · refine Ops.gu rfl rfl rfl (Dtu.mv (lk rfl)) rfl ?_
                  refine Ops.gu rfl rfl rfl (Dtu.mv (lk rfl)) rfl ?_
                  refine Ops.gu rfl rfl rfl (Dtu.leq (lk rfl) (lk rfl)) rfl ?_
                  refine Ops.u (Dtu.pickT (lk rfl) (lk rfl)) rfl ?_
                  refine Ops.u (Dtu.mv (lk rfl)) rfl ?_
                  refine Ops.decP 82 rfl (fun c82 => ?_) (fun c82 => ?_)
                  · refine Ops.gu rfl rfl rfl (Dtu.mv (lk rfl)) rfl ?_
                    refine Ops.gu rfl rfl rfl (Dtu.mv (lk rfl)) rfl ?_
                    refine Ops.gu rfl rfl rfl (Dtu.sub (lk rfl) (lk rfl) (w64 (by omega) (by omega))) rfl ?_
                    refine Ops.gu rfl rfl rfl (Dtu.mv (lk rfl)) rfl ?_
                    refine Ops.gu rfl rfl rfl (Dtu.lss (lk rfl) (lk rfl)) rfl ?_
                    refine Ops.u (Dtu.pickT (lk rfl) (lk rfl)) rfl ?_
                    refine Ops.u (Dtu.asg (lk rfl)) rfl ?_
                    refine Ops.nil ?_
                    refine Then.next ?_
                    refine Body.seq ?_
                    refine Body.drawE [0, 2] mixed rfl ?_
                    rintro E16' le16 ⟨hA16_0, hA16_1, -⟩
                    have hv_16 := Sl.mono hv le16
                    refine AE.u 0 rfl (by decide +kernel) (Dtu.mv (lk rfl)) rfl ?_
                    refine AE.u 1 rfl (by decide +kernel) (Dtu.notP (lk rfl)) rfl ?_
                    refine AE.u 2 rfl (by decide +kernel) (Dtu.mv (lk rfl)) rfl ?_
                    refine AE.decP 91 rfl (fun _ => ?_) (fun hn => absurd (by first | omega | assumption | decide) hn)
                    refine AE.gd 3 rfl (by decide +kernel) rfl rfl rfl (Det.lda Try.isAgg29 Try.sizeOf29 (lk rfl) (Rds.at (m := 3) hA16_0 rfl) rfl) rfl ?_
                    refine AE.gu 4 rfl (by decide +kernel) rfl rfl rfl (Dtu.mv (lk rfl)) rfl ?_
                    refine AE.gu 5 rfl (by decide +kernel) rfl rfl rfl (Dtu.mv (lk rfl)) rfl ?_
                    refine AE.gd 7 rfl (by decide +kernel) rfl rfl rfl (Det.lda Try.isAgg29 Try.sizeOf29 (lk rfl) (Rds.at (m := 3) hA16_1 rfl) rfl) rfl ?_
                    refine AE.gu 8 rfl (by decide +kernel) rfl rfl rfl (Dtu.mv (lk rfl)) rfl ?_
                    refine AE.gu 9 rfl (by decide +kernel) rfl rfl rfl (Dtu.mv (lk rfl)) rfl ?_
                    refine AE.more [6] (by decide +kernel) rfl ⟨?_, trivial⟩
                    refine AEI.gs rfl rfl rfl rfl (Stp.call rfl Try.call19 (lks rfl) (fun E' le hat => rat_g E' _ _ _ _ (by first | assumption | omega) (by first | assumption | omega) (by first | exact Sl.mono (by assumption) le | exact Sl.at (hat _ (.head _)) | exact Sl.at (hat _ (.tail _ (.head _))) | exact Sl.at (hat _ (.tail _ (.tail _ (.head _)))) | exact Sl.at (hat _ (.tail _ (.tail _ (.tail _ (.head _))))) | exact Sl.at (hat _ (.tail _ (.tail _ (.tail _ (.tail _ (.head _)))))) | exact Sl.at (hat _ (.tail _ (.tail _ (.tail _ (.tail _ (.tail _ (.head _))))))))) ?_) rfl
                    rintro _ _ ⟨rfl, rfl⟩
                    refine AE.more [10] (by decide +kernel) rfl ⟨?_, trivial⟩
                    refine AEI.gs rfl rfl rfl rfl (Stp.call rfl Try.call19 (lks rfl) (fun E' le hat => rat_g E' _ _ _ _ (by first | assumption | omega) (by first | assumption | omega) (by first | exact Sl.mono (by assumption) le | exact Sl.at (hat _ (.head _)) | exact Sl.at (hat _ (.tail _ (.head _))) | exact Sl.at (hat _ (.tail _ (.tail _ (.head _)))) | exact Sl.at (hat _ (.tail _ (.tail _ (.tail _ (.head _))))) | exact Sl.at (hat _ (.tail _ (.tail _ (.tail _ (.tail _ (.head _)))))) | exact Sl.at (hat _ (.tail _ (.tail _ (.tail _ (.tail _ (.tail _ (.head _))))))))) ?_) rfl
                    rintro _ _ ⟨rfl, rfl⟩
                    refine AE.gu 11 rfl (by decide +kernel) rfl rfl rfl (Dtu.neS eqGuard49 (eq49 _ _) (lk rfl) (lk rfl)) rfl ?_
                    refine AE.u 12 rfl (by decide +kernel) (Dtu.pickT (lk rfl) (lk rfl)) rfl ?_
                    refine AE.u 13 rfl (by decide +kernel) (Dtu.mv (lk rfl)) rfl ?_
                    refine AE.dec 102 rfl (fun hn => absurd hn (by first | (rw [hq]; decide) | simp [hq])) (fun _ => ?_)
                    refine AE.gu 14 rfl (by decide +kernel) rfl rfl rfl (Dtu.mv (lk rfl)) rfl ?_
                    refine AE.gu 15 rfl (by decide +kernel) rfl rfl rfl (Dtu.mv (lk rfl)) rfl ?_
                    refine AE.decP 104 rfl (fun hy => absurd hy (by first | omega | assumption | decide)) (fun _ => ?_)
                    refine AE.gn 16 rfl (by decide +kernel) rfl rfl rfl rfl rfl ?_
                    refine AE.gn 17 rfl (by decide +kernel) rfl rfl rfl rfl rfl ?_
                    refine AE.gn 18 rfl (by decide +kernel) rfl rfl rfl rfl rfl ?_
                    refine AE.gn 19 rfl (by decide +kernel) rfl rfl rfl rfl rfl ?_
                    refine AE.gn 20 rfl (by decide +kernel) rfl rfl rfl rfl rfl ?_
                    refine AE.gn 21 rfl (by decide +kernel) rfl rfl rfl rfl rfl ?_
                    refine AE.gn 22 rfl (by decide +kernel) rfl rfl rfl rfl rfl ?_
                    refine AE.gu 23 rfl (by decide +kernel) rfl rfl rfl (Dtu.pickF (lk rfl) (lk rfl)) rfl ?_
                    refine AE.u 24 rfl (by decide +kernel) (Dtu.pickF (lk rfl) (lk rfl)) rfl ?_
                    refine AE.done (by decide +kernel) ?_
                    refine Then.next ?_
                    refine Body.condF (lk rfl) ?_
                    refine Body.skip ?_
                    refine Blk.norm ?_
                    refine Then.next ?_
                    refine Body.region ?_
                    refine Ops.u (Dtu.mv (lk rfl)) rfl ?_
                    refine Ops.u (Dtu.add (lk rfl) (lk rfl) (w64 (by omega) (by omega))) rfl ?_
                    refine Ops.u (Dtu.asg (lk rfl)) rfl ?_
                    refine Ops.nil ?_
                    refine Round.goK [3, 0, 0, 1, 0] (k + 1) rfl rfl rfl ⟨rfl, trivial⟩ rfl rfl (by omega) (by omega)
                  · refine Ops.gn rfl rfl rfl rfl rfl ?_
                    refine Ops.gn rfl rfl rfl rfl rfl ?_
                    refine Ops.gn rfl rfl rfl rfl rfl ?_
                    refine Ops.gn rfl rfl rfl rfl rfl ?_
                    refine Ops.gn rfl rfl rfl rfl rfl ?_
                    refine Ops.u (Dtu.pickF (lk rfl) (lk rfl)) rfl ?_
                    refine Ops.u (Dtu.asg (lk rfl)) rfl ?_
                    refine Ops.nil ?_
                    refine Then.next ?_
                    refine Body.seq ?_
                    refine Body.drawE [0, 2] mixed rfl ?_
                    rintro E16' le16 ⟨hA16_0, hA16_1, -⟩
                    have hv_16 := Sl.mono hv le16
                    refine AE.u 0 rfl (by decide +kernel) (Dtu.mv (lk rfl)) rfl ?_
                    refine AE.u 1 rfl (by decide +kernel) (Dtu.not (lk rfl)) rfl ?_
                    refine AE.u 2 rfl (by decide +kernel) (Dtu.mv (lk rfl)) rfl ?_
                    refine AE.gd 3 rfl (by decide +kernel) rfl rfl rfl (Det.lda Try.isAgg29 Try.sizeOf29 (lk rfl) (Rds.at (m := 3) hA16_0 rfl) rfl) rfl ?_
                    refine AE.gu 4 rfl (by decide +kernel) rfl rfl rfl (Dtu.mv (lk rfl)) rfl ?_
                    refine AE.gu 5 rfl (by decide +kernel) rfl rfl rfl (Dtu.mv (lk rfl)) rfl ?_
                    refine AE.gd 7 rfl (by decide +kernel) rfl rfl rfl (Det.lda Try.isAgg29 Try.sizeOf29 (lk rfl) (Rds.at (m := 3) hA16_1 rfl) rfl) rfl ?_
                    refine AE.gu 8 rfl (by decide +kernel) rfl rfl rfl (Dtu.mv (lk rfl)) rfl ?_
                    refine AE.gu 9 rfl (by decide +kernel) rfl rfl rfl (Dtu.mv (lk rfl)) rfl ?_
                    refine AE.more [6] (by decide +kernel) rfl ⟨?_, trivial⟩
                    refine AEI.gs rfl rfl rfl rfl (Stp.call rfl Try.call19 (lks rfl) (fun E' le hat => rat_g E' _ _ _ _ (by first | assumption | omega) (by first | assumption | omega) (by first | exact Sl.mono (by assumption) le | exact Sl.at (hat _ (.head _)) | exact Sl.at (hat _ (.tail _ (.head _))) | exact Sl.at (hat _ (.tail _ (.tail _ (.head _)))) | exact Sl.at (hat _ (.tail _ (.tail _ (.tail _ (.head _))))) | exact Sl.at (hat _ (.tail _ (.tail _ (.tail _ (.tail _ (.head _)))))) | exact Sl.at (hat _ (.tail _ (.tail _ (.tail _ (.tail _ (.tail _ (.head _))))))))) ?_) rfl
                    rintro _ _ ⟨rfl, rfl⟩
                    refine AE.more [10] (by decide +kernel) rfl ⟨?_, trivial⟩
                    refine AEI.gs rfl rfl rfl rfl (Stp.call rfl Try.call19 (lks rfl) (fun E' le hat => rat_g E' _ _ _ _ (by first | assumption | omega) (by first | assumption | omega) (by first | exact Sl.mono (by assumption) le | exact Sl.at (hat _ (.head _)) | exact Sl.at (hat _ (.tail _ (.head _))) | exact Sl.at (hat _ (.tail _ (.tail _ (.head _)))) | exact Sl.at (hat _ (.tail _ (.tail _ (.tail _ (.head _))))) | exact Sl.at (hat _ (.tail _ (.tail _ (.tail _ (.tail _ (.head _)))))) | exact Sl.at (hat _ (.tail _ (.tail _ (.tail _ (.tail _ (.tail _ (.head _))))))))) ?_) rfl
                    rintro _ _ ⟨rfl, rfl⟩
                    refine AE.gu 11 rfl (by decide +kernel) rfl rfl rfl (Dtu.neS eqGuard49 (eq49 _ _) (lk rfl) (lk rfl)) rfl ?_
                    refine AE.u 12 rfl (by decide +kernel) (Dtu.pickT (lk rfl) (lk rfl)) rfl ?_
                    refine AE.u 13 rfl (by decide +kernel) (Dtu.mv (lk rfl)) rfl ?_
                    refine AE.dec 102 rfl (fun hn => absurd hn (by first | (rw [hq]; decide) | simp [hq])) (fun _ => ?_)
                    refine AE.gu 14 rfl (by decide +kernel) rfl rfl rfl (Dtu.mv (lk rfl)) rfl ?_
                    refine AE.gu 15 rfl (by decide +kernel) rfl rfl rfl (Dtu.mv (lk rfl)) rfl ?_
                    refine AE.gn 16 rfl (by decide +kernel) rfl rfl rfl rfl rfl ?_
                    refine AE.gn 17 rfl (by decide +kernel) rfl rfl rfl rfl rfl ?_
                    refine AE.gn 18 rfl (by decide +kernel) rfl rfl rfl rfl rfl ?_
                    refine AE.gn 19 rfl (by decide +kernel) rfl rfl rfl rfl rfl ?_
                    refine AE.gn 20 rfl (by decide +kernel) rfl rfl rfl rfl rfl ?_
                    refine AE.gn 21 rfl (by decide +kernel) rfl rfl rfl rfl rfl ?_
                    refine AE.gn 22 rfl (by decide +kernel) rfl rfl rfl rfl rfl ?_
                    refine AE.gu 23 rfl (by decide +kernel) rfl rfl rfl (Dtu.pickF (lk rfl) (lk rfl)) rfl ?_
                    refine AE.u 24 rfl (by decide +kernel) (Dtu.pickF (lk rfl) (lk rfl)) rfl ?_
                    refine AE.done (by decide +kernel) ?_
                    refine Then.next ?_
                    refine Body.condF (lk rfl) ?_
                    refine Body.skip ?_
                    refine Blk.norm ?_
                    refine Then.next ?_
                    refine Body.region ?_
                    refine Ops.u (Dtu.mv (lk rfl)) rfl ?_
                    refine Ops.u (Dtu.add (lk rfl) (lk rfl) (w64 (by omega) (by omega))) rfl ?_
                    refine Ops.u (Dtu.asg (lk rfl)) rfl ?_
                    refine Ops.nil ?_
                    refine Round.goK [3, 0, 0, 1, 0] (k + 1) rfl rfl rfl ⟨rfl, trivial⟩ rfl rfl (by omega) (by omega)
                · refine Ops.gn rfl rfl rfl rfl rfl ?_
                  refine Ops.gn rfl rfl rfl rfl rfl ?_
                  refine Ops.gn rfl rfl rfl rfl rfl ?_
                  refine Ops.u (Dtu.pickF (lk rfl) (lk rfl)) rfl ?_
                  refine Ops.u (Dtu.mv (lk rfl)) rfl ?_
                  refine Ops.gn rfl rfl rfl rfl rfl ?_
                  refine Ops.gn rfl rfl rfl rfl rfl ?_
                  refine Ops.gn rfl rfl rfl rfl rfl ?_
                  refine Ops.gn rfl rfl rfl rfl rfl ?_
                  refine Ops.gn rfl rfl rfl rfl rfl ?_
                  refine Ops.u (Dtu.pickF (lk rfl) (lk rfl)) rfl ?_
                  refine Ops.u (Dtu.asg (lk rfl)) rfl ?_
                  refine Ops.nil ?_
                  refine Then.next ?_
                  refine Body.seq ?_
                  refine Body.drawE [0, 2] mixed rfl ?_
                  rintro E16' le16 ⟨hA16_0, hA16_1, -⟩
                  have hv_16 := Sl.mono hv le16
                  refine AE.u 0 rfl (by decide +kernel) (Dtu.mv (lk rfl)) rfl ?_
                  refine AE.u 1 rfl (by decide +kernel) (Dtu.not (lk rfl)) rfl ?_
                  refine AE.u 2 rfl (by decide +kernel) (Dtu.mv (lk rfl)) rfl ?_
                  refine AE.gd 3 rfl (by decide +kernel) rfl rfl rfl (Det.lda Try.isAgg29 Try.sizeOf29 (lk rfl) (Rds.at (m := 3) hA16_0 rfl) rfl) rfl ?_
                  refine AE.gu 4 rfl (by decide +kernel) rfl rfl rfl (Dtu.mv (lk rfl)) rfl ?_
                  refine AE.gu 5 rfl (by decide +kernel) rfl rfl rfl (Dtu.mv (lk rfl)) rfl ?_
                  refine AE.gd 7 rfl (by decide +kernel) rfl rfl rfl (Det.lda Try.isAgg29 Try.sizeOf29 (lk rfl) (Rds.at (m := 3) hA16_1 rfl) rfl) rfl ?_
                  refine AE.gu 8 rfl (by decide +kernel) rfl rfl rfl (Dtu.mv (lk rfl)) rfl ?_
                  refine AE.gu 9 rfl (by decide +kernel) rfl rfl rfl (Dtu.mv (lk rfl)) rfl ?_
                  refine AE.more [6] (by decide +kernel) rfl ⟨?_, trivial⟩
                  refine AEI.gs rfl rfl rfl rfl (Stp.call rfl Try.call19 (lks rfl) (fun E' le hat => rat_g E' _ _ _ _ (by first | assumption | omega) (by first | assumption | omega) (by first | exact Sl.mono (by assumption) le | exact Sl.at (hat _ (.head _)) | exact Sl.at (hat _ (.tail _ (.head _))) | exact Sl.at (hat _ (.tail _ (.tail _ (.head _)))) | exact Sl.at (hat _ (.tail _ (.tail _ (.tail _ (.head _))))) | exact Sl.at (hat _ (.tail _ (.tail _ (.tail _ (.tail _ (.head _)))))) | exact Sl.at (hat _ (.tail _ (.tail _ (.tail _ (.tail _ (.tail _ (.head _))))))))) ?_) rfl
                  rintro _ _ ⟨rfl, rfl⟩
                  refine AE.more [10] (by decide +kernel) rfl ⟨?_, trivial⟩
                  refine AEI.gs rfl rfl rfl rfl (Stp.call rfl Try.call19 (lks rfl) (fun E' le hat => rat_g E' _ _ _ _ (by first | assumption | omega) (by first | assumption | omega) (by first | exact Sl.mono (by assumption) le | exact Sl.at (hat _ (.head _)) | exact Sl.at (hat _ (.tail _ (.head _))) | exact Sl.at (hat _ (.tail _ (.tail _ (.head _)))) | exact Sl.at (hat _ (.tail _ (.tail _ (.tail _ (.head _))))) | exact Sl.at (hat _ (.tail _ (.tail _ (.tail _ (.tail _ (.head _)))))) | exact Sl.at (hat _ (.tail _ (.tail _ (.tail _ (.tail _ (.tail _ (.head _))))))))) ?_) rfl
                  rintro _ _ ⟨rfl, rfl⟩
                  refine AE.gu 11 rfl (by decide +kernel) rfl rfl rfl (Dtu.neS eqGuard49 (eq49 _ _) (lk rfl) (lk rfl)) rfl ?_
                  refine AE.u 12 rfl (by decide +kernel) (Dtu.pickT (lk rfl) (lk rfl)) rfl ?_
                  refine AE.u 13 rfl (by decide +kernel) (Dtu.mv (lk rfl)) rfl ?_
                  refine AE.dec 102 rfl (fun hn => absurd hn (by first | (rw [hq]; decide) | simp [hq])) (fun _ => ?_)
                  refine AE.gu 14 rfl (by decide +kernel) rfl rfl rfl (Dtu.mv (lk rfl)) rfl ?_
                  refine AE.gu 15 rfl (by decide +kernel) rfl rfl rfl (Dtu.mv (lk rfl)) rfl ?_
                  refine AE.gn 16 rfl (by decide +kernel) rfl rfl rfl rfl rfl ?_
                  refine AE.gn 17 rfl (by decide +kernel) rfl rfl rfl rfl rfl ?_
                  refine AE.gn 18 rfl (by decide +kernel) rfl rfl rfl rfl rfl ?_
                  refine AE.gn 19 rfl (by decide +kernel) rfl rfl rfl rfl rfl ?_
                  refine AE.gn 20 rfl (by decide +kernel) rfl rfl rfl rfl rfl ?_
                  refine AE.gn 21 rfl (by decide +kernel) rfl rfl rfl rfl rfl ?_
                  refine AE.gn 22 rfl (by decide +kernel) rfl rfl rfl rfl rfl ?_
                  refine AE.gu 23 rfl (by decide +kernel) rfl rfl rfl (Dtu.pickF (lk rfl) (lk rfl)) rfl ?_
                  refine AE.u 24 rfl (by decide +kernel) (Dtu.pickF (lk rfl) (lk rfl)) rfl ?_
                  refine AE.done (by decide +kernel) ?_
                  refine Then.next ?_
                  refine Body.condF (lk rfl) ?_
                  refine Body.skip ?_
                  refine Blk.norm ?_
                  refine Then.next ?_
                  refine Body.region ?_
                  refine Ops.u (Dtu.mv (lk rfl)) rfl ?_
                  refine Ops.u (Dtu.add (lk rfl) (lk rfl) (w64 (by omega) (by omega))) rfl ?_
                  refine Ops.u (Dtu.asg (lk rfl)) rfl ?_
                  refine Ops.nil ?_
                  refine Round.goK [3, 0, 0, 1, 0] (k + 1) rfl rfl rfl ⟨rfl, trivial⟩ rfl rfl (by omega) (by omega)
            · refine Body.seq ?_
              refine Body.seq ?_
              refine Body.region ?_
              refine Ops.u (Dtu.mv (lk rfl)) rfl ?_
              refine Ops.u (Dtu.fld fa29_1 (lk rfl)) rfl ?_
              refine Ops.d (Det.ld Try.isAgg3 (lk rfl) (Rd.ow 3 rfl rfl)) rfl ?_
              refine Ops.u (Dtu.lss (lk rfl) (lk rfl)) rfl ?_
              refine Ops.nil ?_
              refine Then.next ?_
              refine Body.condP (lk rfl) (fun hy => absurd hy (by first | omega | assumption | decide)) (fun _ => ?_)
              refine Body.exit ?_
              refine Then.exit ?_
              refine Round.exit ?_
              refine Blk.here ?_
              refine Blk.norm ?_
              refine Then.next ?_
              refine Body.region ?_
              refine Ops.u (Dtu.mv (lk rfl)) rfl ?_
              refine Ops.u (Dtu.add (lk rfl) (lk rfl) (w64 (by omega) (by omega))) rfl ?_
              refine Ops.u (Dtu.asg (lk rfl)) rfl ?_
              refine Ops.nil ?_
              refine Round.goK [0, 0, 0, 0, 0] (i + 1) rfl rfl rfl ⟨rfl, trivial⟩ rfl rfl (by omega) (by omega)
          · refine Body.seq ?_
            refine Body.seq ?_
            refine Body.region ?_
            refine Ops.u (Dtu.mv (lk rfl)) rfl ?_
            refine Ops.u (Dtu.fld fa29_0 (lk rfl)) rfl ?_
            refine Ops.d (Det.ld Try.isAgg3 (lk rfl) (Rd.ow 3 rfl rfl)) rfl ?_
            refine Ops.u (Dtu.lss (lk rfl) (lk rfl)) rfl ?_
            refine Ops.nil ?_
            refine Then.next ?_
            refine Body.condP (lk rfl) (fun hy => absurd hy (by first | omega | assumption | decide)) (fun _ => ?_)
            refine Body.exit ?_
            refine Then.exit ?_
            refine Round.exit ?_
            refine Blk.here ?_
            refine Joint.goK [3, 1, 2] G rfl rfl rfl trivial rfl rfl ⟨gok, gin⟩
        · have e1 := erI_neg hr
          have e2 : mg32.up t u n (Go.Proofs.Ytpmapedhigjalaa.Cell.mk 32 0 0 0) = mg32 := if_neg hr
          refine Body.seq ?_
          refine Body.region ?_
          refine Ops.u (Dtu.mv (lk rfl)) rfl ?_
          refine Ops.u (Dtu.mv (lk rfl)) rfl ?_
          refine Ops.u (Dtu.mv (lk rfl)) rfl ?_
          refine Ops.u (Dtu.mv (lk rfl)) rfl ?_
          refine Ops.s (Stp.call rfl Try.call24 (lks rfl) (fun E' le hat => blank_ok E') ?_) rfl
          rintro _ _ ⟨rfl, rfl⟩
          refine Ops.s (Stp.callOwn [1] rfl rfl Try.call23 (lks rfl) (fun E' le hat => up_g E' _ _ _ _ _ _ _ _ _) ?_) rfl
          rintro _ _ ⟨rfl, rfl⟩
          refine Ops.u (Dtu.eql (lk rfl) (lk rfl)) rfl ?_
          refine Ops.nil ?_
          refine Then.next ?_
          refine Body.condP (lk rfl) (fun hy => absurd hy (by first | omega | assumption | decide)) (fun _ => ?_)
          refine Body.skip ?_
          rw [e2]
          refine Joint.goK [1, 0, 0] mg32 rfl rfl rfl trivial rfl rfl ⟨mok32, min32⟩
      rintro z u2 ⟨zok, zin⟩
      have hzb := zok.r
      have hzc := zok.c
      by_cases hr : z.has row col ∧ 0 ≤ m
      · have e1 := erI_pos hr
        have hrr : 0 ≤ row ∧ row < z.r ∧ 0 ≤ col ∧ col < z.c := hr.1
        obtain ⟨G, hG, hGr, hGc, hGf⟩ := insdel zok hr
        have hr2 : (z.ins row col m (Go.Proofs.Ytpmapedhigjalaa.Cell.mk 32 0 0 0)).has row col ∧ 0 ≤ m := by rw [Gd.ins, if_pos hr]; exact hr
        have e2 := erI_pos hr2
        have gok : G.Ok := by rw [← hG]; exact Gd.op_ok (Gd.op_ok zok ⟨4, row, col, m, (Go.Proofs.Ytpmapedhigjalaa.Cell.mk 32 0 0 0)⟩) ⟨5, row, col, m, (Go.Proofs.Ytpmapedhigjalaa.Cell.mk 32 0 0 0)⟩
        have gin : G.In := by rw [← hG]; exact Gd.op_in (Gd.op_in zin ⟨4, row, col, m, (Go.Proofs.Ytpmapedhigjalaa.Cell.mk 32 0 0 0)⟩ bin) ⟨5, row, col, m, (Go.Proofs.Ytpmapedhigjalaa.Cell.mk 32 0 0 0)⟩ bin
        refine Body.seq ?_
        refine Body.region ?_
        refine Ops.u (Dtu.mv (lk rfl)) rfl ?_
        refine Ops.s (Stp.callOwn [1] rfl rfl Try.call21 (lks rfl) (fun E' le hat => as17_ok E' _ _ (by first | assumption | omega) (by first | assumption | omega)) ?_) rfl
        rintro _ _ ⟨aa115, ac115, rfl, rfl⟩
        refine Ops.e (Stp.store 2 Try.sizeOf29 (lk rfl) (lk rfl) rfl rfl rfl rfl rfl rfl rfl ?_)
        refine Ops.nil ?_
        refine Then.next ?_
        refine Body.seq ?_
        refine Body.seq ?_
        refine Body.region ?_
        refine Ops.u (Dtu.mv (lk rfl)) rfl ?_
        refine Ops.u (Dtu.mv (lk rfl)) rfl ?_
        refine Ops.u (Dtu.mv (lk rfl)) rfl ?_
        refine Ops.u (Dtu.mv (lk rfl)) rfl ?_
        refine Ops.s (Stp.call rfl Try.call24 (lks rfl) (fun E' le hat => blank_ok E') ?_) rfl
        rintro _ _ ⟨rfl, rfl⟩
        refine Ops.s (Stp.callOwn [0] rfl rfl Try.call26 (lks rfl) (fun E' le hat => insert_g E' _ _ _ _ _ _ _ _ _) ?_) rfl
        rintro _ _ ⟨rfl, rfl⟩
        refine Ops.u (Dtu.eql (lk rfl) (lk rfl)) rfl ?_
        refine Ops.nil ?_
        refine Then.next ?_
        refine Body.condP (lk rfl) (fun _ => ?_) (fun hn => absurd (by first | omega | assumption | decide) hn)
        refine Body.seq ?_
        refine Body.seq ?_
        refine Body.region ?_
        refine Ops.u (Dtu.mv (lk rfl)) rfl ?_
        refine Ops.u (Dtu.mv (lk rfl)) rfl ?_
        refine Ops.u (Dtu.mv (lk rfl)) rfl ?_
        refine Ops.u (Dtu.mv (lk rfl)) rfl ?_
        refine Ops.s (Stp.call rfl Try.call24 (lks rfl) (fun E' le hat => blank_ok E') ?_) rfl
        rintro _ _ ⟨rfl, rfl⟩
        refine Ops.s (Stp.callOwn [0] rfl rfl Try.call27 (lks rfl) (fun E' le hat => delete_g E' _ _ _ _ _ _ _ _ _) ?_) rfl
        rintro _ _ ⟨rfl, rfl⟩
        refine Ops.u (Dtu.neq (lk rfl) (lk rfl)) rfl ?_
        refine Ops.nil ?_
        refine Then.next ?_
        refine Body.condP (lk rfl) (fun hy => absurd hy (by first | omega | assumption | decide)) (fun _ => ?_)
        refine Body.skip ?_
        refine Then.next ?_
        refine Body.seq ?_
        refine Body.region ?_
        refine Ops.u (Dtu.mv (lk rfl)) rfl ?_
        rw [hG]
        refine Ops.s (Stp.callOwn [0] rfl rfl Try.call21 (lks rfl) (fun E' le hat => as17_ok E' _ _ (by first | assumption | omega) (by first | assumption | omega)) ?_) rfl
        rintro _ _ ⟨aa131, ac131, rfl, rfl⟩
        refine Ops.s (Stp.alloc ty29 (fun b25 => ?_)) rfl
        refine Ops.e (Stp.store 0 Try.sizeOf29 (lk rfl) (lk rfl) rfl rfl rfl rfl rfl rfl rfl ?_)
        refine Ops.nil ?_
        refine Then.next ?_
        refine Body.seq ?_
        refine Body.region ?_
        refine Ops.u (Dtu.asg (lk rfl)) rfl ?_
        refine Ops.nil ?_
        refine Then.next ?_
        refine Body.block ?_
        refine Body.loopH (γ := Nat) rfl (fun i => [(26, .int .i64 i)]) (fun i => []) (fun i => i ≤ z.r) (fun i => z.r - i) (0) (Nat.zero_le _) ⟨rfl, trivial⟩ rfl ?_
        rintro i u0 hi
        by_cases hlt : i < z.r
        · refine Body.seq ?_
          refine Body.seq ?_
          refine Body.region ?_
          refine Ops.u (Dtu.mv (lk rfl)) rfl ?_
          refine Ops.u (Dtu.fld fa29_0 (lk rfl)) rfl ?_
          refine Ops.d (Det.ld Try.isAgg3 (lk rfl) (Rd.ow 4 rfl rfl)) rfl ?_
          refine Ops.u (Dtu.lss (lk rfl) (lk rfl)) rfl ?_
          refine Ops.nil ?_
          refine Then.next ?_
          refine Body.condP (lk rfl) (fun _ => ?_) (fun hn => absurd (by first | omega | assumption | decide) hn)
          refine Body.skip ?_
          refine Then.next ?_
          refine Body.seq ?_
          refine Body.block ?_
          refine Body.seq ?_
          refine Body.region ?_
          refine Ops.u (Dtu.asg (lk rfl)) rfl ?_
          refine Ops.nil ?_
          refine Then.next ?_
          refine Body.block ?_
          refine Body.loopH (γ := Nat) rfl (fun k => [(27, .int .i64 k)]) (fun k => []) (fun k => k ≤ z.c) (fun k => z.c - k) (0) (Nat.zero_le _) ⟨rfl, trivial⟩ rfl ?_
          rintro k u1 hk
          by_cases hkt : k < z.c
          · have hasM : z.has i k := ⟨by omega, by omega, by omega, by omega⟩
            have hasG : G.has i k := ⟨by omega, by omega, by omega, by omega⟩
            have hg := hGf i k hkt
            by_cases hlost : (i : Int) = row ∧ col ≤ (k : Int) ∧ (z.c : Int) - k ≤ m
            · rw [if_pos hlost] at hg
              have hq : rEq (G.f (i : Int).toNat (k : Int).toNat) (Go.Proofs.Ytpmapedhigjalaa.Cell.mk 32 0 0 0) = true := by
                show rEq (G.f i k) _ = _
                rw [hg]; exact rEq_self _
              refine Body.seq ?_
              refine Body.seq ?_
              refine Body.region ?_
              refine Ops.u (Dtu.mv (lk rfl)) rfl ?_
              refine Ops.u (Dtu.fld fa29_1 (lk rfl)) rfl ?_
              refine Ops.d (Det.ld Try.isAgg3 (lk rfl) (Rd.ow 4 rfl rfl)) rfl ?_
              refine Ops.u (Dtu.lss (lk rfl) (lk rfl)) rfl ?_
              refine Ops.nil ?_
              refine Then.next ?_
              refine Body.condP (lk rfl) (fun _ => ?_) (fun hn => absurd (by first | omega | assumption | decide) hn)
              refine Body.skip ?_
              refine Then.next ?_
              refine Body.seq ?_
              refine Body.block ?_
              refine Body.seq ?_
              refine Body.region ?_
              refine Ops.u (Dtu.mv (lk rfl)) rfl ?_
              refine Ops.u (Dtu.mv (lk rfl)) rfl ?_
              refine Ops.u (Dtu.eql (lk rfl) (lk rfl)) rfl ?_
              refine Ops.u (Dtu.mv (lk rfl)) rfl ?_
              refine Ops.decP 147 rfl (fun _ => ?_) (fun hn => absurd (by first | omega | assumption | decide) hn)
              refine Ops.gu rfl rfl rfl (Dtu.mv (lk rfl)) rfl ?_
              refine Ops.gu rfl rfl rfl (Dtu.mv (lk rfl)) rfl ?_
              refine Ops.gu rfl rfl rfl (Dtu.geq (lk rfl) (lk rfl)) rfl ?_
              refine Ops.u (Dtu.pickT (lk rfl) (lk rfl)) rfl ?_
              refine Ops.u (Dtu.mv (lk rfl)) rfl ?_
              refine Ops.decP 152 rfl (fun _ => ?_) (fun hn => absurd (by first | omega | assumption | decide) hn)
              refine Ops.gu rfl rfl rfl (Dtu.fld fa29_1 (lk rfl)) rfl ?_
              refine Ops.gd rfl rfl rfl (Det.ld Try.isAgg3 (lk rfl) (Rd.ow 4 rfl rfl)) rfl ?_
              refine Ops.gu rfl rfl rfl (Dtu.mv (lk rfl)) rfl ?_
              refine Ops.gu rfl rfl rfl (Dtu.sub (lk rfl) (lk rfl) (w64 (by omega) (by omega))) rfl ?_
              refine Ops.gu rfl rfl rfl (Dtu.mv (lk rfl)) rfl ?_
              refine Ops.gu rfl rfl rfl (Dtu.leq (lk rfl) (lk rfl)) rfl ?_
              refine Ops.u (Dtu.pickT (lk rfl) (lk rfl)) rfl ?_
              refine Ops.u (Dtu.asg (lk rfl)) rfl ?_
              refine Ops.nil ?_
              refine Then.next ?_
              refine Body.seq ?_
              refine Body.drawE [0, 3] mixed rfl ?_
              rintro E30' le30 ⟨hA30_0, hA30_1, -⟩
              have hv_30 := Sl.mono hv le30
              refine AE.u 0 rfl (by decide +kernel) (Dtu.mv (lk rfl)) rfl ?_
              refine AE.u 1 rfl (by decide +kernel) (Dtu.notP (lk rfl)) rfl ?_
              refine AE.u 2 rfl (by decide +kernel) (Dtu.mv (lk rfl)) rfl ?_
              refine AE.decP 162 rfl (fun hy => absurd hy (by first | omega | assumption | decide)) (fun _ => ?_)
              refine AE.gn 3 rfl (by decide +kernel) rfl rfl rfl rfl rfl ?_
              refine AE.gn 4 rfl (by decide +kernel) rfl rfl rfl rfl rfl ?_
              refine AE.gn 5 rfl (by decide +kernel) rfl rfl rfl rfl rfl ?_
              refine AE.gn 6 rfl (by decide +kernel) rfl rfl rfl rfl rfl ?_
              refine AE.gn 7 rfl (by decide +kernel) rfl rfl rfl rfl rfl ?_
              refine AE.gn 8 rfl (by decide +kernel) rfl rfl rfl rfl rfl ?_
              refine AE.gn 9 rfl (by decide +kernel) rfl rfl rfl rfl rfl ?_
              refine AE.gn 10 rfl (by decide +kernel) rfl rfl rfl rfl rfl ?_
              refine AE.gn 11 rfl (by decide +kernel) rfl rfl rfl rfl rfl ?_
              refine AE.u 12 rfl (by decide +kernel) (Dtu.pickF (lk rfl) (lk rfl)) rfl ?_
              refine AE.u 13 rfl (by decide +kernel) (Dtu.mv (lk rfl)) rfl ?_
              refine AE.gu 14 rfl (by decide +kernel) rfl rfl rfl (Dtu.mv (lk rfl)) rfl ?_
              refine AE.gu 15 rfl (by decide +kernel) rfl rfl rfl (Dtu.mv (lk rfl)) rfl ?_
              refine AE.decP 175 rfl (fun _ => ?_) (fun hn => absurd (by first | omega | assumption | decide) hn)
              refine AE.gd 16 rfl (by decide +kernel) rfl rfl rfl (Det.lda Try.isAgg29 Try.sizeOf29 (lk rfl) (Rds.at (m := 3) hA30_0 rfl) rfl) rfl ?_
              refine AE.gu 17 rfl (by decide +kernel) rfl rfl rfl (Dtu.mv (lk rfl)) rfl ?_
              refine AE.gu 18 rfl (by decide +kernel) rfl rfl rfl (Dtu.mv (lk rfl)) rfl ?_
              refine AE.more [19] (by decide +kernel) rfl ⟨?_, trivial⟩
              refine AEI.gs rfl rfl rfl rfl (Stp.call rfl Try.call19 (lks rfl) (fun E' le hat => rat_g E' _ _ _ _ (by first | assumption | omega) (by first | assumption | omega) (by first | exact Sl.mono (by assumption) le | exact Sl.at (hat _ (.head _)) | exact Sl.at (hat _ (.tail _ (.head _))) | exact Sl.at (hat _ (.tail _ (.tail _ (.head _)))) | exact Sl.at (hat _ (.tail _ (.tail _ (.tail _ (.head _))))) | exact Sl.at (hat _ (.tail _ (.tail _ (.tail _ (.tail _ (.head _)))))) | exact Sl.at (hat _ (.tail _ (.tail _ (.tail _ (.tail _ (.tail _ (.head _))))))))) ?_) rfl
              rintro _ _ ⟨rfl, rfl⟩
              refine AE.more [20] (by decide +kernel) rfl ⟨?_, trivial⟩
              refine AEI.gs rfl rfl rfl rfl (Stp.call rfl Try.call24 (lks rfl) (fun E' le hat => blank_ok E') ?_) rfl
              rintro _ _ ⟨rfl, rfl⟩
              refine AE.more [21] (by decide +kernel) rfl ⟨?_, trivial⟩
              refine AEI.gs rfl rfl rfl rfl (Stp.call rfl Try.call18 (lks rfl) (fun E' le hat => cell17_ok E' _ _ _ _ (by first | assumption | omega) (by first | assumption | omega)) ?_) rfl
              rintro _ _ ⟨rfl, rfl⟩
              refine AE.gu 22 rfl (by decide +kernel) rfl rfl rfl (Dtu.neS eqGuard49 (eq49b _ _ _ _ _) (lk rfl) (lk rfl)) rfl ?_
              refine AE.gu 23 rfl (by decide +kernel) rfl rfl rfl (Dtu.pickT (lk rfl) (lk rfl)) rfl ?_
              refine AE.u 24 rfl (by decide +kernel) (Dtu.pickF (lk rfl) (lk rfl)) rfl ?_
              refine AE.done (by decide +kernel) ?_
              refine Then.next ?_
              refine Body.cond (lk rfl) (fun hn => absurd hn (by first | (rw [hq]; decide) | simp [hq])) (fun _ => ?_)
              refine Body.skip ?_
              refine Blk.norm ?_
              refine Then.next ?_
              refine Body.region ?_
              refine Ops.u (Dtu.mv (lk rfl)) rfl ?_
              refine Ops.u (Dtu.add (lk rfl) (lk rfl) (w64 (by omega) (by omega))) rfl ?_
              refine Ops.u (Dtu.asg (lk rfl)) rfl ?_
              refine Ops.nil ?_
              refine Round.goK [4, 0, 0, 0, 1, 0] (k + 1) rfl rfl rfl ⟨rfl, trivial⟩ rfl rfl (by omega) (by omega)
            · rw [if_neg hlost] at hg
              have hq : rEq (G.f (i : Int).toNat (k : Int).toNat) (z.f (i : Int).toNat (k : Int).toNat) = true := by
                show rEq (G.f i k) (z.f i k) = _
                rw [hg]; exact rEq_self _
              refine Body.seq ?_
              refine Body.seq ?_
              refine Body.region ?_
              refine Ops.u (Dtu.mv (lk rfl)) rfl ?_
              refine Ops.u (Dtu.fld fa29_1 (lk rfl)) rfl ?_
              refine Ops.d (Det.ld Try.isAgg3 (lk rfl) (Rd.ow 4 rfl rfl)) rfl ?_
              refine Ops.u (Dtu.lss (lk rfl) (lk rfl)) rfl ?_
              refine Ops.nil ?_
              refine Then.next ?_
              refine Body.condP (lk rfl) (fun _ => ?_) (fun hn => absurd (by first | omega | assumption | decide) hn)
              refine Body.skip ?_
              refine Then.next ?_
              refine Body.seq ?_
              refine Body.block ?_
              refine Body.seq ?_
              refine Body.region ?_
              refine Ops.u (Dtu.mv (lk rfl)) rfl ?_
              refine Ops.u (Dtu.mv (lk rfl)) rfl ?_
              refine Ops.u (Dtu.eql (lk rfl) (lk rfl)) rfl ?_
              refine Ops.u (Dtu.mv (lk rfl)) rfl ?_
              refine Ops.decP 147 rfl (fun c147 => ?_) (fun c147 => ?_)
              · refine Ops.gu rfl rfl rfl (Dtu.mv (lk rfl)) rfl ?_
                refine Ops.gu rfl rfl rfl (Dtu.mv (lk rfl)) rfl ?_
                refine Ops.gu rfl rfl rfl (Dtu.geq (lk rfl) (lk rfl)) rfl ?_
                refine Ops.u (Dtu.pickT (lk rfl) (lk rfl)) rfl ?_
                refine Ops.u (Dtu.mv (lk rfl)) rfl ?_
                refine Ops.decP 152 rfl (fun c152 => ?_) (fun c152 => ?_)
                · refine Ops.gu rfl rfl rfl (Dtu.fld fa29_1 (lk rfl)) rfl ?_
                  refine Ops.gd rfl rfl rfl (Det.ld Try.isAgg3 (lk rfl) (Rd.ow 4 rfl rfl)) rfl ?_
                  refine Ops.gu rfl rfl rfl (Dtu.mv (lk rfl)) rfl ?_
                  refine Ops.gu rfl rfl rfl (Dtu.sub (lk rfl) (lk rfl) (w64 (by omega) (by omega))) rfl ?_
                  refine Ops.gu rfl rfl rfl (Dtu.mv (lk rfl)) rfl ?_
                  refine Ops.gu rfl rfl rfl (Dtu.leq (lk rfl) (lk rfl)) rfl ?_
                  refine Ops.u (Dtu.pickT (lk rfl) (lk rfl)) rfl ?_
                  refine Ops.u (Dtu.asg (lk rfl)) rfl ?_
                  refine Ops.nil ?_
                  refine Then.next ?_
                  refine Body.seq ?_
                  refine Body.drawE [0, 3] mixed rfl ?_
                  rintro E30' le30 ⟨hA30_0, hA30_1, -⟩
                  have hv_30 := Sl.mono hv le30
                  refine AE.u 0 rfl (by decide +kernel) (Dtu.mv (lk rfl)) rfl ?_
                  refine AE.u 1 rfl (by decide +kernel) (Dtu.notP (lk rfl)) rfl ?_
                  refine AE.u 2 rfl (by decide +kernel) (Dtu.mv (lk rfl)) rfl ?_
                  refine AE.decP 162 rfl (fun _ => ?_) (fun hn => absurd (by first | omega | assumption | decide) hn)
                  refine AE.gd 3 rfl (by decide +kernel) rfl rfl rfl (Det.lda Try.isAgg29 Try.sizeOf29 (lk rfl) (Rds.at (m := 3) hA30_0 rfl) rfl) rfl ?_
                  refine AE.gu 4 rfl (by decide +kernel) rfl rfl rfl (Dtu.mv (lk rfl)) rfl ?_
                  refine AE.gu 5 rfl (by decide +kernel) rfl rfl rfl (Dtu.mv (lk rfl)) rfl ?_
                  refine AE.gd 7 rfl (by decide +kernel) rfl rfl rfl (Det.lda Try.isAgg29 Try.sizeOf29 (lk rfl) (Rds.at (m := 3) hA30_1 rfl) rfl) rfl ?_
                  refine AE.gu 8 rfl (by decide +kernel) rfl rfl rfl (Dtu.mv (lk rfl)) rfl ?_
                  refine AE.gu 9 rfl (by decide +kernel) rfl rfl rfl (Dtu.mv (lk rfl)) rfl ?_
                  refine AE.more [6] (by decide +kernel) rfl ⟨?_, trivial⟩
                  refine AEI.gs rfl rfl rfl rfl (Stp.call rfl Try.call19 (lks rfl) (fun E' le hat => rat_g E' _ _ _ _ (by first | assumption | omega) (by first | assumption | omega) (by first | exact Sl.mono (by assumption) le | exact Sl.at (hat _ (.head _)) | exact Sl.at (hat _ (.tail _ (.head _))) | exact Sl.at (hat _ (.tail _ (.tail _ (.head _)))) | exact Sl.at (hat _ (.tail _ (.tail _ (.tail _ (.head _))))) | exact Sl.at (hat _ (.tail _ (.tail _ (.tail _ (.tail _ (.head _)))))) | exact Sl.at (hat _ (.tail _ (.tail _ (.tail _ (.tail _ (.tail _ (.head _))))))))) ?_) rfl
                  rintro _ _ ⟨rfl, rfl⟩
                  refine AE.more [10] (by decide +kernel) rfl ⟨?_, trivial⟩
                  refine AEI.gs rfl rfl rfl rfl (Stp.call rfl Try.call19 (lks rfl) (fun E' le hat => rat_g E' _ _ _ _ (by first | assumption | omega) (by first | assumption | omega) (by first | exact Sl.mono (by assumption) le | exact Sl.at (hat _ (.head _)) | exact Sl.at (hat _ (.tail _ (.head _))) | exact Sl.at (hat _ (.tail _ (.tail _ (.head _)))) | exact Sl.at (hat _ (.tail _ (.tail _ (.tail _ (.head _))))) | exact Sl.at (hat _ (.tail _ (.tail _ (.tail _ (.tail _ (.head _)))))) | exact Sl.at (hat _ (.tail _ (.tail _ (.tail _ (.tail _ (.tail _ (.head _))))))))) ?_) rfl
                  rintro _ _ ⟨rfl, rfl⟩
                  refine AE.gu 11 rfl (by decide +kernel) rfl rfl rfl (Dtu.neS eqGuard49 (eq49 _ _) (lk rfl) (lk rfl)) rfl ?_
                  refine AE.u 12 rfl (by decide +kernel) (Dtu.pickT (lk rfl) (lk rfl)) rfl ?_
                  refine AE.u 13 rfl (by decide +kernel) (Dtu.mv (lk rfl)) rfl ?_
                  refine AE.dec 173 rfl (fun hn => absurd hn (by first | (rw [hq]; decide) | simp [hq])) (fun _ => ?_)
                  refine AE.gu 14 rfl (by decide +kernel) rfl rfl rfl (Dtu.mv (lk rfl)) rfl ?_
                  refine AE.gu 15 rfl (by decide +kernel) rfl rfl rfl (Dtu.mv (lk rfl)) rfl ?_
                  refine AE.decP 175 rfl (fun hy => absurd hy (by first | omega | assumption | decide)) (fun _ => ?_)
                  refine AE.gn 16 rfl (by decide +kernel) rfl rfl rfl rfl rfl ?_
                  refine AE.gn 17 rfl (by decide +kernel) rfl rfl rfl rfl rfl ?_
                  refine AE.gn 18 rfl (by decide +kernel) rfl rfl rfl rfl rfl ?_
                  refine AE.gn 19 rfl (by decide +kernel) rfl rfl rfl rfl rfl ?_
                  refine AE.gn 20 rfl (by decide +kernel) rfl rfl rfl rfl rfl ?_
                  refine AE.gn 21 rfl (by decide +kernel) rfl rfl rfl rfl rfl ?_
                  refine AE.gn 22 rfl (by decide +kernel) rfl rfl rfl rfl rfl ?_
                  refine AE.gu 23 rfl (by decide +kernel) rfl rfl rfl (Dtu.pickF (lk rfl) (lk rfl)) rfl ?_
                  refine AE.u 24 rfl (by decide +kernel) (Dtu.pickF (lk rfl) (lk rfl)) rfl ?_
                  refine AE.done (by decide +kernel) ?_
                  refine Then.next ?_
                  refine Body.condF (lk rfl) ?_
                  refine Body.skip ?_
                  refine Blk.norm ?_
                  refine Then.next ?_
                  refine Body.region ?_
                  refine Ops.u (Dtu.mv (lk rfl)) rfl ?_
                  refine Ops.u (Dtu.add (lk rfl) (lk rfl) (w64 (by omega) (by omega))) rfl ?_
                  refine Ops.u (Dtu.asg (lk rfl)) rfl ?_
                  refine Ops.nil ?_
                  refine Round.goK [4, 0, 0, 0, 1, 0] (k + 1) rfl rfl rfl ⟨rfl, trivial⟩ rfl rfl (by omega) (by omega)
                · refine Ops.gn rfl rfl rfl rfl rfl ?_
                  refine Ops.gn rfl rfl rfl rfl rfl ?_
                  refine Ops.gn rfl rfl rfl rfl rfl ?_
                  refine Ops.gn rfl rfl rfl rfl rfl ?_
                  refine Ops.gn rfl rfl rfl rfl rfl ?_
                  refine Ops.gn rfl rfl rfl rfl rfl ?_
                  refine Ops.u (Dtu.pickF (lk rfl) (lk rfl)) rfl ?_
                  refine Ops.u (Dtu.asg (lk rfl)) rfl ?_
                  refine Ops.nil ?_
                  refine Then.next ?_
                  refine Body.seq ?_
                  refine Body.drawE [0, 3] mixed rfl ?_
                  rintro E30' le30 ⟨hA30_0, hA30_1, -⟩
                  have hv_30 := Sl.mono hv le30
                  refine AE.u 0 rfl (by decide +kernel) (Dtu.mv (lk rfl)) rfl ?_
                  refine AE.u 1 rfl (by decide +kernel) (Dtu.not (lk rfl)) rfl ?_
                  refine AE.u 2 rfl (by decide +kernel) (Dtu.mv (lk rfl)) rfl ?_
                  refine AE.gd 3 rfl (by decide +kernel) rfl rfl rfl (Det.lda Try.isAgg29 Try.sizeOf29 (lk rfl) (Rds.at (m := 3) hA30_0 rfl) rfl) rfl ?_
                  refine AE.gu 4 rfl (by decide +kernel) rfl rfl rfl (Dtu.mv (lk rfl)) rfl ?_
                  refine AE.gu 5 rfl (by decide +kernel) rfl rfl rfl (Dtu.mv (lk rfl)) rfl ?_
                  refine AE.gd 7 rfl (by decide +kernel) rfl rfl rfl (Det.lda Try.isAgg29 Try.sizeOf29 (lk rfl) (Rds.at (m := 3) hA30_1 rfl) rfl) rfl ?_
                  refine AE.gu 8 rfl (by decide +kernel) rfl rfl rfl (Dtu.mv (lk rfl)) rfl ?_
                  refine AE.gu 9 rfl (by decide +kernel) rfl rfl rfl (Dtu.mv (lk rfl)) rfl ?_
                  refine AE.more [6] (by decide +kernel) rfl ⟨?_, trivial⟩
                  refine AEI.gs rfl rfl rfl rfl (Stp.call rfl Try.call19 (lks rfl) (fun E' le hat => rat_g E' _ _ _ _ (by first | assumption | omega) (by first | assumption | omega) (by first | exact Sl.mono (by assumption) le | exact Sl.at (hat _ (.head _)) | exact Sl.at (hat _ (.tail _ (.head _))) | exact Sl.at (hat _ (.tail _ (.tail _ (.head _)))) | exact Sl.at (hat _ (.tail _ (.tail _ (.tail _ (.head _))))) | exact Sl.at (hat _ (.tail _ (.tail _ (.tail _ (.tail _ (.head _)))))) | exact Sl.at (hat _ (.tail _ (.tail _ (.tail _ (.tail _ (.tail _ (.head _))))))))) ?_) rfl
                  rintro _ _ ⟨rfl, rfl⟩
                  refine AE.more [10] (by decide +kernel) rfl ⟨?_, trivial⟩
                  refine AEI.gs rfl rfl rfl rfl (Stp.call rfl Try.call19 (lks rfl) (fun E' le hat => rat_g E' _ _ _ _ (by first | assumption | omega) (by first | assumption | omega) (by first | exact Sl.mono (by assumption) le | exact Sl.at (hat _ (.head _)) | exact Sl.at (hat _ (.tail _ (.head _))) | exact Sl.at (hat _ (.tail _ (.tail _ (.head _)))) | exact Sl.at (hat _ (.tail _ (.tail _ (.tail _ (.head _))))) | exact Sl.at (hat _ (.tail _ (.tail _ (.tail _ (.tail _ (.head _)))))) | exact Sl.at (hat _ (.tail _ (.tail _ (.tail _ (.tail _ (.tail _ (.head _))))))))) ?_) rfl
                  rintro _ _ ⟨rfl, rfl⟩
                  refine AE.gu 11 rfl (by decide +kernel) rfl rfl rfl (Dtu.neS eqGuard49 (eq49 _ _) (lk rfl) (lk rfl)) rfl ?_
                  refine AE.u 12 rfl (by decide +kernel) (Dtu.pickT (lk rfl) (lk rfl)) rfl ?_
                  refine AE.u 13 rfl (by decide +kernel) (Dtu.mv (lk rfl)) rfl ?_
                  refine AE.dec 173 rfl (fun hn => absurd hn (by first | (rw [hq]; decide) | simp [hq])) (fun _ => ?_)
                  refine AE.gu 14 rfl (by decide +kernel) rfl rfl rfl (Dtu.mv (lk rfl)) rfl ?_
                  refine AE.gu 15 rfl (by decide +kernel) rfl rfl rfl (Dtu.mv (lk rfl)) rfl ?_
                  refine AE.gn 16 rfl (by decide +kernel) rfl rfl rfl rfl rfl ?_
                  refine AE.gn 17 rfl (by decide +kernel) rfl rfl rfl rfl rfl ?_
                  refine AE.gn 18 rfl (by decide +kernel) rfl rfl rfl rfl rfl ?_
                  refine AE.gn 19 rfl (by decide +kernel) rfl rfl rfl rfl rfl ?_
                  refine AE.gn 20 rfl (by decide +kernel) rfl rfl rfl rfl rfl ?_
                  refine AE.gn 21 rfl (by decide +kernel) rfl rfl rfl rfl rfl ?_
                  refine AE.gn 22 rfl (by decide +kernel) rfl rfl rfl rfl rfl ?_
                  refine AE.gu 23 rfl (by decide +kernel) rfl rfl rfl (Dtu.pickF (lk rfl) (lk rfl)) rfl ?_
                  refine AE.u 24 rfl (by decide +kernel) (Dtu.pickF (lk rfl) (lk rfl)) rfl ?_
                  refine AE.done (by decide +kernel) ?_
                  refine Then.next ?_
                  refine Body.condF (lk rfl) ?_
                  refine Body.skip ?_
                  refine Blk.norm ?_
                  refine Then.next ?_
                  refine Body.region ?_
                  refine Ops.u (Dtu.mv (lk rfl)) rfl ?_
                  refine Ops.u (Dtu.add (lk rfl) (lk rfl) (w64 (by omega) (by omega))) rfl ?_
                  refine Ops.u (Dtu.asg (lk rfl)) rfl ?_
                  refine Ops.nil ?_
                  refine Round.goK [4, 0, 0, 0, 1, 0] (k + 1) rfl rfl rfl ⟨rfl, trivial⟩ rfl rfl (by omega) (by omega)
              · refine Ops.gn rfl rfl rfl rfl rfl ?_
                refine Ops.gn rfl rfl rfl rfl rfl ?_
                refine Ops.gn rfl rfl rfl rfl rfl ?_
                refine Ops.u (Dtu.pickF (lk rfl) (lk rfl)) rfl ?_
                refine Ops.u (Dtu.mv (lk rfl)) rfl ?_
                refine Ops.gn rfl rfl rfl rfl rfl ?_
                refine Ops.gn rfl rfl rfl rfl rfl ?_
                refine Ops.gn rfl rfl rfl rfl rfl ?_
                refine Ops.gn rfl rfl rfl rfl rfl ?_
                refine Ops.gn rfl rfl rfl rfl rfl ?_
                refine Ops.gn rfl rfl rfl rfl rfl ?_
                refine Ops.u (Dtu.pickF (lk rfl) (lk rfl)) rfl ?_
                refine Ops.u (Dtu.asg (lk rfl)) rfl ?_
                refine Ops.nil ?_
                refine Then.next ?_
                refine Body.seq ?_
                refine Body.drawE [0, 3] mixed rfl ?_
                rintro E30' le30 ⟨hA30_0, hA30_1, -⟩
                have hv_30 := Sl.mono hv le30
                refine AE.u 0 rfl (by decide +kernel) (Dtu.mv (lk rfl)) rfl ?_
                refine AE.u 1 rfl (by decide +kernel) (Dtu.not (lk rfl)) rfl ?_
                refine AE.u 2 rfl (by decide +kernel) (Dtu.mv (lk rfl)) rfl ?_
                refine AE.gd 3 rfl (by decide +kernel) rfl rfl rfl (Det.lda Try.isAgg29 Try.sizeOf29 (lk rfl) (Rds.at (m := 3) hA30_0 rfl) rfl) rfl ?_
                refine AE.gu 4 rfl (by decide +kernel) rfl rfl rfl (Dtu.mv (lk rfl)) rfl ?_
                refine AE.gu 5 rfl (by decide +kernel) rfl rfl rfl (Dtu.mv (lk rfl)) rfl ?_
                refine AE.gd 7 rfl (by decide +kernel) rfl rfl rfl (Det.lda Try.isAgg29 Try.sizeOf29 (lk rfl) (Rds.at (m := 3) hA30_1 rfl) rfl) rfl ?_
                refine AE.gu 8 rfl (by decide +kernel) rfl rfl rfl (Dtu.mv (lk rfl)) rfl ?_
                refine AE.gu 9 rfl (by decide +kernel) rfl rfl rfl (Dtu.mv (lk rfl)) rfl ?_
                refine AE.more [6] (by decide +kernel) rfl ⟨?_, trivial⟩
                refine AEI.gs rfl rfl rfl rfl (Stp.call rfl Try.call19 (lks rfl) (fun E' le hat => rat_g E' _ _ _ _ (by first | assumption | omega) (by first | assumption | omega) (by first | exact Sl.mono (by assumption) le | exact Sl.at (hat _ (.head _)) | exact Sl.at (hat _ (.tail _ (.head _))) | exact Sl.at (hat _ (.tail _ (.tail _ (.head _)))) | exact Sl.at (hat _ (.tail _ (.tail _ (.tail _ (.head _))))) | exact Sl.at (hat _ (.tail _ (.tail _ (.tail _ (.tail _ (.head _)))))) | exact Sl.at (hat _ (.tail _ (.tail _ (.tail _ (.tail _ (.tail _ (.head _))))))))) ?_) rfl
                rintro _ _ ⟨rfl, rfl⟩
                refine AE.more [10] (by decide +kernel) rfl ⟨?_, trivial⟩
                refine AEI.gs rfl rfl rfl rfl (Stp.call rfl Try.call19 (lks rfl) (fun E' le hat => rat_g E' _ _ _ _ (by first | assumption | omega) (by first | assumption | omega) (by first | exact Sl.mono (by assumption) le | exact Sl.at (hat _ (.head _)) | exact Sl.at (hat _ (.tail _ (.head _))) | exact Sl.at (hat _ (.tail _ (.tail _ (.head _)))) | exact Sl.at (hat _ (.tail _ (.tail _ (.tail _ (.head _))))) | exact Sl.at (hat _ (.tail _ (.tail _ (.tail _ (.tail _ (.head _)))))) | exact Sl.at (hat _ (.tail _ (.tail _ (.tail _ (.tail _ (.tail _ (.head _))))))))) ?_) rfl
                rintro _ _ ⟨rfl, rfl⟩
                refine AE.gu 11 rfl (by decide +kernel) rfl rfl rfl (Dtu.neS eqGuard49 (eq49 _ _) (lk rfl) (lk rfl)) rfl ?_
                refine AE.u 12 rfl (by decide +kernel) (Dtu.pickT (lk rfl) (lk rfl)) rfl ?_
                refine AE.u 13 rfl (by decide +kernel) (Dtu.mv (lk rfl)) rfl ?_
                refine AE.dec 173 rfl (fun hn => absurd hn (by first | (rw [hq]; decide) | simp [hq])) (fun _ => ?_)
                refine AE.gu 14 rfl (by decide +kernel) rfl rfl rfl (Dtu.mv (lk rfl)) rfl ?_
                refine AE.gu 15 rfl (by decide +kernel) rfl rfl rfl (Dtu.mv (lk rfl)) rfl ?_
                refine AE.gn 16 rfl (by decide +kernel) rfl rfl rfl rfl rfl ?_
                refine AE.gn 17 rfl (by decide +kernel) rfl rfl rfl rfl rfl ?_
                refine AE.gn 18 rfl (by decide +kernel) rfl rfl rfl rfl rfl ?_
                refine AE.gn 19 rfl (by decide +kernel) rfl rfl rfl rfl rfl ?_
                refine AE.gn 20 rfl (by decide +kernel) rfl rfl rfl rfl rfl ?_
                refine AE.gn 21 rfl (by decide +kernel) rfl rfl rfl rfl rfl ?_
                refine AE.gn 22 rfl (by decide +kernel) rfl rfl rfl rfl rfl ?_
                refine AE.gu 23 rfl (by decide +kernel) rfl rfl rfl (Dtu.pickF (lk rfl) (lk rfl)) rfl ?_
                refine AE.u 24 rfl (by decide +kernel) (Dtu.pickF (lk rfl) (lk rfl)) rfl ?_
                refine AE.done (by decide +kernel) ?_
                refine Then.next ?_
                refine Body.condF (lk rfl) ?_
                refine Body.skip ?_
                refine Blk.norm ?_
                refine Then.next ?_
                refine Body.region ?_
                refine Ops.u (Dtu.mv (lk rfl)) rfl ?_
                refine Ops.u (Dtu.add (lk rfl) (lk rfl) (w64 (by omega) (by omega))) rfl ?_
                refine Ops.u (Dtu.asg (lk rfl)) rfl ?_
                refine Ops.nil ?_
                refine Round.goK [4, 0, 0, 0, 1, 0] (k + 1) rfl rfl rfl ⟨rfl, trivial⟩ rfl rfl (by omega) (by omega)
          · refine Body.seq ?_
            refine Body.seq ?_
            refine Body.region ?_
            refine Ops.u (Dtu.mv (lk rfl)) rfl ?_
            refine Ops.u (Dtu.fld fa29_1 (lk rfl)) rfl ?_
            refine Ops.d (Det.ld Try.isAgg3 (lk rfl) (Rd.ow 4 rfl rfl)) rfl ?_
            refine Ops.u (Dtu.lss (lk rfl) (lk rfl)) rfl ?_
            refine Ops.nil ?_
            refine Then.next ?_
            refine Body.condP (lk rfl) (fun hy => absurd hy (by first | omega | assumption | decide)) (fun _ => ?_)
            refine Body.exit ?_
            refine Then.exit ?_
            refine Round.exit ?_
            refine Blk.here ?_
            refine Blk.norm ?_
            refine Then.next ?_
            refine Body.region ?_
            refine Ops.u (Dtu.mv (lk rfl)) rfl ?_
            refine Ops.u (Dtu.add (lk rfl) (lk rfl) (w64 (by omega) (by omega))) rfl ?_
            refine Ops.u (Dtu.asg (lk rfl)) rfl ?_
            refine Ops.nil ?_
            refine Round.goK [0, 0, 0, 0, 0, 0] (i + 1) rfl rfl rfl ⟨rfl, trivial⟩ rfl rfl (by omega) (by omega)
        · refine Body.seq ?_
          refine Body.seq ?_
          refine Body.region ?_
          refine Ops.u (Dtu.mv (lk rfl)) rfl ?_
          refine Ops.u (Dtu.fld fa29_0 (lk rfl)) rfl ?_
          refine Ops.d (Det.ld Try.isAgg3 (lk rfl) (Rd.ow 4 rfl rfl)) rfl ?_
          refine Ops.u (Dtu.lss (lk rfl) (lk rfl)) rfl ?_
          refine Ops.nil ?_
          refine Then.next ?_
          refine Body.condP (lk rfl) (fun hy => absurd hy (by first | omega | assumption | decide)) (fun _ => ?_)
          refine Body.exit ?_
          refine Then.exit ?_
          refine Round.exit ?_
          refine Blk.here ?_
          refine Then.next ?_
          refine Body.seq ?_
          refine Body.region ?_
          refine Ops.s (Stp.call rfl Try.call14 (lks rfl) (fun E' le hat => alive17_ok E') ?_) rfl
          rintro _ _ ⟨rfl, rfl⟩
          refine Ops.u (Dtu.asg (lk rfl)) rfl ?_
          refine Ops.nil ?_
          refine Then.next ?_
          refine Body.ret ?_
          exact ⟨.inr rfl, _, pk [] rfl, rfl, rfl⟩
      · have e1 := erI_neg hr
        refine Body.seq ?_
        refine Body.region ?_
        refine Ops.u (Dtu.mv (lk rfl)) rfl ?_
        refine Ops.s (Stp.callOwn [1] rfl rfl Try.call21 (lks rfl) (fun E' le hat => as17_ok E' _ _ (by first | assumption | omega) (by first | assumption | omega)) ?_) rfl
        rintro _ _ ⟨aa115, ac115, rfl, rfl⟩
        refine Ops.e (Stp.store 2 Try.sizeOf29 (lk rfl) (lk rfl) rfl rfl rfl rfl rfl rfl rfl ?_)
        refine Ops.nil ?_
        refine Then.next ?_
        refine Body.seq ?_
        refine Body.seq ?_
        refine Body.region ?_
        refine Ops.u (Dtu.mv (lk rfl)) rfl ?_
        refine Ops.u (Dtu.mv (lk rfl)) rfl ?_
        refine Ops.u (Dtu.mv (lk rfl)) rfl ?_
        refine Ops.u (Dtu.mv (lk rfl)) rfl ?_
        refine Ops.s (Stp.call rfl Try.call24 (lks rfl) (fun E' le hat => blank_ok E') ?_) rfl
        rintro _ _ ⟨rfl, rfl⟩
        refine Ops.s (Stp.callOwn [0] rfl rfl Try.call26 (lks rfl) (fun E' le hat => insert_g E' _ _ _ _ _ _ _ _ _) ?_) rfl
        rintro _ _ ⟨rfl, rfl⟩
        refine Ops.u (Dtu.eql (lk rfl) (lk rfl)) rfl ?_
        refine Ops.nil ?_
        refine Then.next ?_
        refine Body.condP (lk rfl) (fun hy => absurd hy (by first | omega | assumption | decide)) (fun _ => ?_)
        refine Body.skip ?_
        refine Then.next ?_
        refine Body.seq ?_
        refine Body.region ?_
        refine Ops.s (Stp.call rfl Try.call14 (lks rfl) (fun E' le hat => alive17_ok E') ?_) rfl
        rintro _ _ ⟨rfl, rfl⟩
        refine Ops.u (Dtu.asg (lk rfl)) rfl ?_
        refine Ops.nil ?_
        refine Then.next ?_
        refine Body.ret ?_
        exact ⟨.inr rfl, _, pk [] rfl, rfl, rfl⟩
    · refine Does.go _ _ Try.func4 rfl Try.ntmps4 rfl rfl ?_
      refine Body.seq ?_
      refine Body.region ?_
      refine Ops.u (Dtu.asg (lk rfl)) rfl ?_
      refine Ops.nil ?_
      refine Then.next ?_
      refine Body.seq ?_
      refine Body.region ?_
      refine Ops.u (Dtu.mv (lk rfl)) rfl ?_
      refine Ops.u (Dtu.mv (lk rfl)) rfl ?_
      refine Ops.u (Dtu.mv (lk rfl)) rfl ?_
      refine Ops.s (Stp.call rfl Try.call22 (lks rfl) (fun E' le hat => made17_ok E' _ _ _ _ (by first | assumption | omega) (by first | assumption | omega) (by first | exact Sl.mono (by assumption) le | exact Sl.at (hat _ (.head _)) | exact Sl.at (hat _ (.tail _ (.head _))) | exact Sl.at (hat _ (.tail _ (.tail _ (.head _)))) | exact Sl.at (hat _ (.tail _ (.tail _ (.tail _ (.head _))))) | exact Sl.at (hat _ (.tail _ (.tail _ (.tail _ (.tail _ (.head _)))))) | exact Sl.at (hat _ (.tail _ (.tail _ (.tail _ (.tail _ (.tail _ (.head _))))))))) ?_) rfl
      rintro _ _ ⟨mb32, mg32, mok32, min32, rfl, rfl⟩
      refine Ops.u (Dtu.asg (lk rfl)) rfl ?_
      refine Ops.nil ?_
      refine Then.next ?_
      refine Body.seq ?_
      refine Body.seq ?_
      refine Body.region ?_
      refine Ops.u (Dtu.mv (lk rfl)) rfl ?_
      refine Ops.u (Dtu.eqNil Try.underlying23 (lk rfl) (lk rfl)) rfl ?_
      refine Ops.u (Dtu.mv (lk rfl)) rfl ?_
      refine Ops.gu rfl rfl rfl (Dtu.mv (lk rfl)) rfl ?_
      refine Ops.gu rfl rfl rfl (Dtu.lss (lk rfl) (lk rfl)) rfl ?_
      refine Ops.u (Dtu.pickF (lk rfl) (lk rfl)) rfl ?_
      refine Ops.u (Dtu.mv (lk rfl)) rfl ?_
      refine Ops.decP 39 rfl (fun c39 => ?_) (fun c39 => ?_)
      · refine Ops.gn rfl rfl rfl rfl rfl ?_
        refine Ops.gn rfl rfl rfl rfl rfl ?_
        refine Ops.u (Dtu.pickT (lk rfl) (lk rfl)) rfl ?_
        refine Ops.nil ?_
        refine Then.next ?_
        refine Body.condT (lk rfl) ?_
        refine Body.seq ?_
        refine Body.region ?_
        refine Ops.s (Stp.call rfl Try.call14 (lks rfl) (fun E' le hat => alive17_ok E') ?_) rfl
        rintro _ _ ⟨rfl, rfl⟩
        refine Ops.u (Dtu.asg (lk rfl)) rfl ?_
        refine Ops.nil ?_
        refine Then.next ?_
        refine Body.ret ?_
        refine Then.ret ?_
        exact ⟨.inr rfl, _, pk [] rfl, rfl, rfl⟩
      · refine Ops.gu rfl rfl rfl (Dtu.mv (lk rfl)) rfl ?_
        refine Ops.gu rfl rfl rfl (Dtu.lss (lk rfl) (lk rfl)) rfl ?_
        refine Ops.u (Dtu.pickF (lk rfl) (lk rfl)) rfl ?_
        refine Ops.nil ?_
        refine Then.next ?_
        refine Body.condP (lk rfl) (fun _ => ?_) (fun hn => absurd (by first | omega | assumption | decide) hn)
        refine Body.seq ?_
        refine Body.region ?_
        refine Ops.s (Stp.call rfl Try.call14 (lks rfl) (fun E' le hat => alive17_ok E') ?_) rfl
        rintro _ _ ⟨rfl, rfl⟩
        refine Ops.u (Dtu.asg (lk rfl)) rfl ?_
        refine Ops.nil ?_
        refine Then.next ?_
        refine Body.ret ?_
        refine Then.ret ?_
        exact ⟨.inr rfl, _, pk [] rfl, rfl, rfl⟩
end Go.Proofs.Ytpmapedhigjalaa
end
section
/- For GridMoves. -/
namespace Go.Proofs.Ytpmapedhigjalaa
end Go.Proofs.Ytpmapedhigjalaa
end
section
/- 'Rows.GridMovesSaid': longlinelaw17.GridMoves returns true, whatever sizes, calls and numbers come in; they read as they did. -/
namespace Go.Proofs.Ytpmapedhigjalaa.gridMoves
open Go.Sx Go.ChangeShapes Go.WideShapes Go.ChangeAt Go.RowKit
set_option linter.unusedVariables false

theorem own : ownKnob Try.prog.godebug = none := by kernel_rfl
theorem laidOut : laidOutB Try.prog = true := by kernel_rfl
theorem pars : (Try.f4.params.toList.all fun t => Try.prog.readableRec t && decide (t < Try.prog.types.size)) = true := by kernel_rfl

set_option maxRecDepth 100000 in
theorem lifted (os : Os) (started : os.Started) (H : Type) (enc : TypeId × Value → H) :
    ReturnsInHanded {} Try.checked os 4 .any (Rows.gridMovesSpec.pre6 enc Try.prog Try.f4 Rows.gridMovesRow.domain false) (Rows.gridMovesSpec.post enc Try.prog Try.f4 false true false false) := by
  refine returnsInHanded_of_change (C := Try.checked) own started (by kernel_rfl) Try.func4
    (ChangeSpec.witness6 (enc := enc) (C := Try.checked) false ⟨#[], #[.int .i64 0, .int .i64 0, .slice none 0 0, .int .i64 0, .int .i64 0, .int .i64 0, .int .i64 0, .int .i64 0, .int .i64 0], []⟩ 8 (by kernel_rfl) (by kernel_rfl) (by kernel_rfl) (by kernel_rfl)) ?_
  intro W base args ds gs before hval0 hW hcnd _
  have hval : ∀ (j : Nat) t v, Try.f4.params[j]? = some t → args[j]? = some v → Value.okWide Try.prog W .any base t v := hval0
  have hW' := hW
  obtain ⟨p, q, hA0, hV, rfl, hfz, hnd⟩ := hW
  have hA : DataW.TrodAll enc Try.prog W 0 (fun _ => true) true Try.f4.params.toList args.toList ds p := hA0
  rw [Try.params4] at hA hval
  obtain ⟨v0, vs0, d0, ds0, p0, q0, hargs, rfl, rfl, h0, r0⟩ := trodAll_cons hA
  obtain ⟨v1, vs1, d1, ds1, p1, q1, rfl, rfl, rfl, h1, r1⟩ := trodAll_cons r0
  obtain ⟨v2, vs2, d2, ds2, p2, q2, rfl, rfl, rfl, h2, r2⟩ := trodAll_cons r1
  obtain ⟨v3, vs3, d3, ds3, p3, q3, rfl, rfl, rfl, h3, r3⟩ := trodAll_cons r2
  obtain ⟨v4, vs4, d4, ds4, p4, q4, rfl, rfl, rfl, h4, r4⟩ := trodAll_cons r3
  obtain ⟨v5, vs5, d5, ds5, p5, q5, rfl, rfl, rfl, h5, r5⟩ := trodAll_cons r4
  obtain ⟨v6, vs6, d6, ds6, p6, q6, rfl, rfl, rfl, h6, r6⟩ := trodAll_cons r5
  obtain ⟨v7, vs7, d7, ds7, p7, q7, rfl, rfl, rfl, h7, r7⟩ := trodAll_cons r6
  obtain ⟨v8, vs8, d8, ds8, p8, q8, rfl, rfl, rfl, h8, r8⟩ := trodAll_cons r7
  obtain ⟨rfl, rfl, rfl⟩ := trodAll_nil r8
  obtain rfl : args = #[v0, v1, v2, v3, v4, v5, v6, v7, v8] := by cases args; simp_all
  obtain ⟨rows, rfl⟩ := okWide_int Try.underlying3 (hval 0 3 v0 rfl rfl)
  obtain ⟨cols, rfl⟩ := okWide_int Try.underlying3 (hval 1 3 v1 rfl rfl)
  obtain ⟨a, ln, cp, rfl⟩ := okWide_slice Try.underlying22 (hval 2 22 v2 rfl rfl)
  obtain ⟨m2, h2'⟩ := h2
  obtain ⟨s, l, es, hs, ho⟩ := trod_ops (cs := [.slice a ln cp]) h2'
  obtain rfl : Value.slice a ln cp = s := by simpa using es
  obtain ⟨n3, rfl⟩ := okWide_int Try.underlying3 (hval 3 3 v3 rfl rfl)
  obtain ⟨n4, rfl⟩ := okWide_int Try.underlying3 (hval 4 3 v4 rfl rfl)
  obtain ⟨n5, rfl⟩ := okWide_int Try.underlying3 (hval 5 3 v5 rfl rfl)
  obtain ⟨n6, rfl⟩ := okWide_int Try.underlying3 (hval 6 3 v6 rfl rfl)
  obtain ⟨n7, rfl⟩ := okWide_int Try.underlying3 (hval 7 3 v7 rfl rfl)
  obtain ⟨n8, rfl⟩ := okWide_int Try.underlying3 (hval 8 3 v8 rfl rfl)
  refine (moves17_ok (envOf W) rows cols _ l n3 n4 n5 n6 n7 n8 ho hs W St.all).mono ?_
  rintro e W' ⟨r, H', rfl, ⟨rfl, rfl⟩, s'⟩
  refine ⟨_, rfl, post_of_below (tb := 4) rfl rfl rfl Try.underlying4 laidOut (fun t ht => ?_) hW' (below_of_St s')⟩
  · have := List.all_eq_true.1 pars t ht
    rw [Bool.and_eq_true, decide_eq_true_eq] at this
    exact this

theorem over : Rows.gridMovesRow.holds Try.pinned (OpenSpec.ofChange Rows.gridMovesSpec) :=
  OpenClaim.holds_of_wide 4 Try.f4 rfl rfl rfl rfl rfl rfl rfl ⟨rfl, rfl, rfl, rfl, rfl⟩ rfl rfl rfl rfl rfl (by kernel_rfl) Try.func4 (by kernel_rfl)
    (of_decide_eq_true (by kernel_rfl)) (by unfold Func.isWrapper; first | (rw [if_pos (by decide +kernel)]; kernel_rfl) | (rw [if_neg (by decide +kernel)]; exact ⟨rfl, rfl⟩))
    (fun os started H enc _ => lifted os started H enc)

theorem proved : Rows.GridMovesSaid := over
end Go.Proofs.Ytpmapedhigjalaa.gridMoves
end
