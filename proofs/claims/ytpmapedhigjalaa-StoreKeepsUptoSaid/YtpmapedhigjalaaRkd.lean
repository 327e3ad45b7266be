/- QNkb: FilC, FilD, FilE, FilF, FilG, FilH, FilI, FilJ, FilK, FilL, FilM, CrcA, OncA, OncB, OncC. -/
import Derived.ChangeKeysEq
import Derived.Tactics
import Derived.Tactics2
import Derived.Defers
import Derived.Laws.Pointers
import Derived.Laws.LoneSync
import Derived.RegionTactic
import Derived.RegionCalls
import Derived.ChangeAlike
import Derived.Test.YtpmapedhigjalaaRka
import Derived.Test.YtpmapedhigjalaaRkb
import Derived.Test.YtpmapedhigjalaaRkc
section
/- file: Next, Know, Anew, Cancel, Info. -/
namespace Go.Proofs.Ytpmapedhigjalaa
set_option maxRecDepth 100000
set_option maxHeartbeats 4000000
set_option linter.unusedVariables false
set_option linter.unusedSimpArgs false
open Go.Sx


/-- slices.Clone at one type -/
theorem cloneB_pre (E : Env) (v : Value) (m : Nat) (vs : List Value) (h : Sl E [] 1 v m vs) (h1 : vs.all (·.oneCell') = true) (hb : m * 1 ≤ 140737488355328) : Does Try.prog 90 #[v] E [] fun r H' => H' = [osl 5 1 r m vs] := by
  refine Does.go (args := [v]) _ _ Try.func90 rfl Try.ntmps90 rfl rfl ?_
  refine Body.seq ?_
  refine Body.region ?_
  refine Ops.u (Dtu.asg (lk rfl)) rfl ?_
  refine Ops.nil ?_
  refine Then.next ?_
  refine Body.seq ?_
  refine Body.seq ?_
  refine Body.region ?_
  refine Ops.u (Dtu.mv (lk rfl)) rfl ?_
  refine Ops.u (Dtu.nilS Try.underlying73 (Sl.up h) (lk rfl)) rfl ?_
  refine Ops.nil ?_
  refine Then.next ?_
  refine Body.cond (lk rfl) (fun c4 => ?_) (fun c4 => ?_)
  · refine Body.pure (h.nil0 c4) ?_
    rintro ⟨rfl, rfl⟩
    refine Body.seq ?_
    refine Body.region ?_
    refine Ops.u (Dtu.asg (lk rfl)) rfl ?_
    refine Ops.nil ?_
    refine Then.next ?_
    refine Body.ret ?_
    refine Then.ret ?_
    exact ⟨.inr rfl, _, fun w s => osl_nil (pk [] rfl w s), rfl⟩
  · refine Body.pure h.len ?_
    rintro ⟨hl, hm⟩
    refine Body.skip ?_
    refine Then.next ?_
    refine Body.seq ?_
    refine Body.region ?_
    refine Ops.s (Stp.buildSlice0 Try.underlying73 ty5 (fun b5 => ?_)) rfl
    refine Ops.u (Dtu.mv (lk rfl)) rfl ?_
    refine Ops.s (Stp.appendNew Try.underlying73 ty5 rfl (lk rfl) (lk rfl) (Sl.up h) (by first | rfl | exact all_map (fun _ => rfl) _ | exact all_flat (fun _ => rfl) _ | exact all_one (by assumption)) (by omega) (by omega) (fun v7 => ?_)) rfl
    refine Ops.u (Dtu.asg (lk rfl)) rfl ?_
    refine Ops.nil ?_
    refine Then.next ?_
    refine Body.ret ?_
    exact ⟨.inr rfl, _, pk [0] rfl, rfl⟩
theorem cloneB_ok (E : Env) (v : Value) (m : Nat) (vs : List Value) (h : Sl E [] 1 v m vs) (h1 : vs.all (·.oneCell') = true) (hb : m * 1 ≤ 140737488355328) : Does Try.prog 90 #[v] E [] fun r H' => H' = [osl 5 1 r m vs] ∧ IsSl r :=
  fun w s => (cloneB_pre E v m vs h h1 hb w s).mono fun _ w' ⟨v, H', e, q, s'⟩ => ⟨v, H', e, ⟨q, by subst q; exact (Sl.osl (i := 0) rfl).isSl w' s'⟩, s'⟩

def chunk (bs : List Int) (i : Nat) : List Int := (bs.drop (64 * i)).take (lenN bs.length i)
theorem chunk_len {bs : List Int} {i : Nat} (h : i < (bs.length + 63) / 64) : (chunk bs i).length = lenN bs.length i := by
  have := lenN_le h
  unfold chunk; rw [List.length_take, List.length_drop]; omega
theorem u8s_one (l : List Int) : (l.map (Value.int .u8)).all (·.oneCell') = true := by simp [Value.oneCell']
theorem Sl.chunk {E : Env} {v : Value} {bs : List Int} {i : Nat} (h : Sl E [] 1 v bs.length (bs.map (.int .u8))) (hi : i < (bs.length + 63) / 64) : Sl E [] 1 (subSl v 1 (i * 64) (i * 64 + lenN bs.length i) (i * 64 + lenN bs.length i)) (lenN bs.length i) ((chunk bs i).map (.int .u8)) := fun w s => by
  have hl := lenN_le hi
  have e : lenN bs.length i = i * 64 + lenN bs.length i - i * 64 := by omega
  have := subSl_slW (h w s) (lo := i * 64) (hi := i * 64 + lenN bs.length i) (mx := i * 64 + lenN bs.length i) (by omega) (by omega) (by omega) (Nat.le_trans (by omega) (h w s).cap.1)
  rw [← e] at this
  rw [Go.Proofs.Ytpmapedhigjalaa.chunk, List.map_take, List.map_drop, Nat.mul_comm 64]
  rwa [Nat.mul_one, Nat.mul_one] at this
theorem Does.shp {E : Env} {H : List HProp} {P : Program} {g : FuncId} {args : Array Value} {t : TypeId} {sz m : Nat} {vs : List Value} (h : Does P g args E H fun r H' => H' = [osl t sz r m vs] ∧ IsSl r) : Does P g args E H fun r H' => ∃ a c, r = .slice a m c ∧ H' = [osl t sz (.slice a m c) m vs] := fun w s =>
  (h w s).mono fun _ _ ⟨v, H', e, q, s'⟩ => by
    obtain ⟨rfl, _⟩ := q
    obtain ⟨a, c, rfl⟩ := Sl.shape (Sl.osl 0 rfl) _ s'
    exact ⟨_, _, e, ⟨a, c, rfl, rfl⟩, s'⟩
theorem cloneB2_ok (E : Env) (v : Value) (m : Nat) (vs : List Value) (h : Sl E [] 1 v m vs) (h1 : vs.all (·.oneCell') = true) (hb : m ≤ 140737488355328) : Does Try.prog 90 #[v] E [] fun r H' => ∃ a c, r = .slice a m c ∧ H' = [osl 5 1 (.slice a m c) m vs] := Does.shp (cloneB_ok E v m vs h h1 (by omega))
theorem Snd.Ok.or {z : Snd} (ok : z.Ok) {n x : Int} (hx : U64 x) (hr : bmR n x = true) (hn : n = z.n) : (⟨z.id, z.nm, z.bs, z.sm, z.x ||| x.toNat, z.pos, z.gone⟩ : Snd).Ok :=
  ⟨ok.len, Nat.or_lt_two_pow ok.x (by have := bmR_lt hr hx.1; rw [hn, Int.toNat_natCast] at this; exact this)⟩
end Go.Proofs.Ytpmapedhigjalaa
end
section
/- file: New. -/
namespace Go.Proofs.Ytpmapedhigjalaa
set_option maxRecDepth 100000
set_option maxHeartbeats 4000000
set_option linter.unusedVariables false
set_option linter.unusedSimpArgs false
open Go.Sx


def shaS (bs : List Int) (i : Nat) : Int := (shaF bs)[i]!
theorem l32 {l : List Int} (h : l.length = 32) : l = (List.range 32).map fun i => l[i]! := by
  refine List.ext_getElem (by simp [h]) fun i h1 h2 => ?_
  rw [List.getElem_map, List.getElem_range, getElem!_pos l i h1]
theorem sha32 (bs : List Int) : (shaF bs).map (Value.int .u8) = (.int .u8 (shaS bs 0) :: .int .u8 (shaS bs 1) :: .int .u8 (shaS bs 2) :: .int .u8 (shaS bs 3) :: .int .u8 (shaS bs 4) :: .int .u8 (shaS bs 5) :: .int .u8 (shaS bs 6) :: .int .u8 (shaS bs 7) :: .int .u8 (shaS bs 8) :: .int .u8 (shaS bs 9) :: .int .u8 (shaS bs 10) :: .int .u8 (shaS bs 11) :: .int .u8 (shaS bs 12) :: .int .u8 (shaS bs 13) :: .int .u8 (shaS bs 14) :: .int .u8 (shaS bs 15) :: .int .u8 (shaS bs 16) :: .int .u8 (shaS bs 17) :: .int .u8 (shaS bs 18) :: .int .u8 (shaS bs 19) :: .int .u8 (shaS bs 20) :: .int .u8 (shaS bs 21) :: .int .u8 (shaS bs 22) :: .int .u8 (shaS bs 23) :: .int .u8 (shaS bs 24) :: .int .u8 (shaS bs 25) :: .int .u8 (shaS bs 26) :: .int .u8 (shaS bs 27) :: .int .u8 (shaS bs 28) :: .int .u8 (shaS bs 29) :: .int .u8 (shaS bs 30) :: .int .u8 (shaS bs 31) :: [] : List Value) := by
  rw [l32 (shaF_len bs)]
  rfl
theorem sof32_ok (E : Env) (parts p : Value) (bs : List Int) (hq : Sl E [] 1 parts 1 [p]) (hp : Sl E [] 1 p bs.length (bs.map (.int .u8))) (hb : Byt bs) (hlen : bs.length ≤ 140737488355000) : Does Try.prog 56 #[parts] E ([]) fun r H' => r = .agg (.int .u8 (shaS bs 0) :: .int .u8 (shaS bs 1) :: .int .u8 (shaS bs 2) :: .int .u8 (shaS bs 3) :: .int .u8 (shaS bs 4) :: .int .u8 (shaS bs 5) :: .int .u8 (shaS bs 6) :: .int .u8 (shaS bs 7) :: .int .u8 (shaS bs 8) :: .int .u8 (shaS bs 9) :: .int .u8 (shaS bs 10) :: .int .u8 (shaS bs 11) :: .int .u8 (shaS bs 12) :: .int .u8 (shaS bs 13) :: .int .u8 (shaS bs 14) :: .int .u8 (shaS bs 15) :: .int .u8 (shaS bs 16) :: .int .u8 (shaS bs 17) :: .int .u8 (shaS bs 18) :: .int .u8 (shaS bs 19) :: .int .u8 (shaS bs 20) :: .int .u8 (shaS bs 21) :: .int .u8 (shaS bs 22) :: .int .u8 (shaS bs 23) :: .int .u8 (shaS bs 24) :: .int .u8 (shaS bs 25) :: .int .u8 (shaS bs 26) :: .int .u8 (shaS bs 27) :: .int .u8 (shaS bs 28) :: .int .u8 (shaS bs 29) :: .int .u8 (shaS bs 30) :: .int .u8 (shaS bs 31) :: []).toArray ∧ H' = [] := by
  have := sof_ok E parts p bs hq hp hb hlen
  rwa [sha32] at this
def infoR (id : Int) (nm : ByteArray) (sz : Int) : Bool := decide (1 ≤ id ∧ id ≤ 4611686018427387903 ∧ 1 ≤ nm.size ∧ nm.size ≤ 24 ∧ 0 ≤ sz ∧ sz ≤ 4096)
theorem sright_ok (E : Env) (id : Int) (nm : ByteArray) (sz : Int) (sm : Nat → Int) : Does Try.prog 38 #[.agg (.int .u64 id :: .string nm :: .int .i64 sz :: .int .u8 (sm 0) :: .int .u8 (sm 1) :: .int .u8 (sm 2) :: .int .u8 (sm 3) :: .int .u8 (sm 4) :: .int .u8 (sm 5) :: .int .u8 (sm 6) :: .int .u8 (sm 7) :: .int .u8 (sm 8) :: .int .u8 (sm 9) :: .int .u8 (sm 10) :: .int .u8 (sm 11) :: .int .u8 (sm 12) :: .int .u8 (sm 13) :: .int .u8 (sm 14) :: .int .u8 (sm 15) :: .int .u8 (sm 16) :: .int .u8 (sm 17) :: .int .u8 (sm 18) :: .int .u8 (sm 19) :: .int .u8 (sm 20) :: .int .u8 (sm 21) :: .int .u8 (sm 22) :: .int .u8 (sm 23) :: .int .u8 (sm 24) :: .int .u8 (sm 25) :: .int .u8 (sm 26) :: .int .u8 (sm 27) :: .int .u8 (sm 28) :: .int .u8 (sm 29) :: .int .u8 (sm 30) :: .int .u8 (sm 31) :: []).toArray] E ([]) fun r H' => r = .bool (infoR id nm sz) ∧ H' = [] := by
  refine Does.go _ _ Try.func38 rfl Try.ntmps38 rfl rfl ?_
  refine Body.seq ?_
  refine Body.region ?_
  refine Ops.s (Stp.box (lk rfl) rfl (fun b1 => ?_)) rfl
  refine Ops.u (Dtu.asg (lk rfl)) rfl ?_
  refine Ops.nil ?_
  refine Then.next ?_
  refine Body.seq ?_
  refine Body.region ?_
  refine Ops.u (Dtu.fld fa82_0 (lk rfl)) rfl ?_
  refine Ops.d (Det.ld Try.isAgg72 (lk rfl) (Rd.ow 0 rfl rfl)) rfl ?_
  refine Ops.u (Dtu.geq (lk rfl) (lk rfl)) rfl ?_
  refine Ops.u (Dtu.mv (lk rfl)) rfl ?_
  refine Ops.decP 6 rfl (fun c6 => ?_) (fun c6 => ?_)
  · refine Ops.gu rfl rfl rfl (Dtu.fld fa82_0 (lk rfl)) rfl ?_
    refine Ops.gd rfl rfl rfl (Det.ld Try.isAgg72 (lk rfl) (Rd.ow 0 rfl rfl)) rfl ?_
    refine Ops.gu rfl rfl rfl (Dtu.leq (lk rfl) (lk rfl)) rfl ?_
    refine Ops.u (Dtu.pickT (lk rfl) (lk rfl)) rfl ?_
    refine Ops.u (Dtu.mv (lk rfl)) rfl ?_
    refine Ops.decP 11 rfl (fun c11 => ?_) (fun c11 => ?_)
    · refine Ops.gu rfl rfl rfl (Dtu.fld fa82_1 (lk rfl)) rfl ?_
      refine Ops.gd rfl rfl rfl (Det.ld Try.isAgg9 (lk rfl) (Rd.ow 0 rfl rfl)) rfl ?_
      refine Ops.gu rfl rfl rfl (Dtu.lenStr Try.underlying9 (lk rfl)) rfl ?_
      refine Ops.gu rfl rfl rfl (Dtu.geq (lk rfl) (lk rfl)) rfl ?_
      refine Ops.u (Dtu.pickT (lk rfl) (lk rfl)) rfl ?_
      refine Ops.u (Dtu.mv (lk rfl)) rfl ?_
      refine Ops.decP 17 rfl (fun c17 => ?_) (fun c17 => ?_)
      · refine Ops.gu rfl rfl rfl (Dtu.fld fa82_1 (lk rfl)) rfl ?_
        refine Ops.gd rfl rfl rfl (Det.ld Try.isAgg9 (lk rfl) (Rd.ow 0 rfl rfl)) rfl ?_
        refine Ops.gu rfl rfl rfl (Dtu.lenStr Try.underlying9 (lk rfl)) rfl ?_
        refine Ops.gu rfl rfl rfl (Dtu.leq (lk rfl) (lk rfl)) rfl ?_
        refine Ops.u (Dtu.pickT (lk rfl) (lk rfl)) rfl ?_
        refine Ops.u (Dtu.mv (lk rfl)) rfl ?_
        refine Ops.decP 23 rfl (fun c23 => ?_) (fun c23 => ?_)
        · refine Ops.gu rfl rfl rfl (Dtu.fld fa82_2 (lk rfl)) rfl ?_
          refine Ops.gd rfl rfl rfl (Det.ld Try.isAgg3 (lk rfl) (Rd.ow 0 rfl rfl)) rfl ?_
          refine Ops.gs rfl rfl rfl (Stp.call rfl Try.call91 (lks rfl) (fun E' le hat => ssize_ok E' _) ?_) rfl
          rintro _ _ ⟨rfl, rfl⟩
          refine Ops.u (Dtu.pickT (lk rfl) (lk rfl)) rfl ?_
          refine Ops.u (Dtu.asg (lk rfl)) rfl ?_
          refine Ops.nil ?_
          refine Then.next ?_
          refine Body.ret ?_
          (refine ⟨.inr rfl, _, pk [] rfl, bEq ?_, rfl⟩; simp [infoR]; omega)
        · refine Ops.gn rfl rfl rfl rfl rfl ?_
          refine Ops.gn rfl rfl rfl rfl rfl ?_
          refine Ops.gn rfl rfl rfl rfl rfl ?_
          refine Ops.u (Dtu.pickF (lk rfl) (lk rfl)) rfl ?_
          refine Ops.u (Dtu.asg (lk rfl)) rfl ?_
          refine Ops.nil ?_
          refine Then.next ?_
          refine Body.ret ?_
          (refine ⟨.inr rfl, _, pk [] rfl, bEq ?_, rfl⟩; simp [infoR]; omega)
      · refine Ops.gn rfl rfl rfl rfl rfl ?_
        refine Ops.gn rfl rfl rfl rfl rfl ?_
        refine Ops.gn rfl rfl rfl rfl rfl ?_
        refine Ops.gn rfl rfl rfl rfl rfl ?_
        refine Ops.u (Dtu.pickF (lk rfl) (lk rfl)) rfl ?_
        refine Ops.u (Dtu.mv (lk rfl)) rfl ?_
        refine Ops.gn rfl rfl rfl rfl rfl ?_
        refine Ops.gn rfl rfl rfl rfl rfl ?_
        refine Ops.gn rfl rfl rfl rfl rfl ?_
        refine Ops.u (Dtu.pickF (lk rfl) (lk rfl)) rfl ?_
        refine Ops.u (Dtu.asg (lk rfl)) rfl ?_
        refine Ops.nil ?_
        refine Then.next ?_
        refine Body.ret ?_
        (refine ⟨.inr rfl, _, pk [] rfl, bEq ?_, rfl⟩; simp [infoR]; omega)
    · refine Ops.gn rfl rfl rfl rfl rfl ?_
      refine Ops.gn rfl rfl rfl rfl rfl ?_
      refine Ops.gn rfl rfl rfl rfl rfl ?_
      refine Ops.gn rfl rfl rfl rfl rfl ?_
      refine Ops.u (Dtu.pickF (lk rfl) (lk rfl)) rfl ?_
      refine Ops.u (Dtu.mv (lk rfl)) rfl ?_
      refine Ops.gn rfl rfl rfl rfl rfl ?_
      refine Ops.gn rfl rfl rfl rfl rfl ?_
      refine Ops.gn rfl rfl rfl rfl rfl ?_
      refine Ops.gn rfl rfl rfl rfl rfl ?_
      refine Ops.u (Dtu.pickF (lk rfl) (lk rfl)) rfl ?_
      refine Ops.u (Dtu.mv (lk rfl)) rfl ?_
      refine Ops.gn rfl rfl rfl rfl rfl ?_
      refine Ops.gn rfl rfl rfl rfl rfl ?_
      refine Ops.gn rfl rfl rfl rfl rfl ?_
      refine Ops.u (Dtu.pickF (lk rfl) (lk rfl)) rfl ?_
      refine Ops.u (Dtu.asg (lk rfl)) rfl ?_
      refine Ops.nil ?_
      refine Then.next ?_
      refine Body.ret ?_
      (refine ⟨.inr rfl, _, pk [] rfl, bEq ?_, rfl⟩; simp [infoR]; omega)
  · refine Ops.gn rfl rfl rfl rfl rfl ?_
    refine Ops.gn rfl rfl rfl rfl rfl ?_
    refine Ops.gn rfl rfl rfl rfl rfl ?_
    refine Ops.u (Dtu.pickF (lk rfl) (lk rfl)) rfl ?_
    refine Ops.u (Dtu.mv (lk rfl)) rfl ?_
    refine Ops.gn rfl rfl rfl rfl rfl ?_
    refine Ops.gn rfl rfl rfl rfl rfl ?_
    refine Ops.gn rfl rfl rfl rfl rfl ?_
    refine Ops.gn rfl rfl rfl rfl rfl ?_
    refine Ops.u (Dtu.pickF (lk rfl) (lk rfl)) rfl ?_
    refine Ops.u (Dtu.mv (lk rfl)) rfl ?_
    refine Ops.gn rfl rfl rfl rfl rfl ?_
    refine Ops.gn rfl rfl rfl rfl rfl ?_
    refine Ops.gn rfl rfl rfl rfl rfl ?_
    refine Ops.gn rfl rfl rfl rfl rfl ?_
    refine Ops.u (Dtu.pickF (lk rfl) (lk rfl)) rfl ?_
    refine Ops.u (Dtu.mv (lk rfl)) rfl ?_
    refine Ops.gn rfl rfl rfl rfl rfl ?_
    refine Ops.gn rfl rfl rfl rfl rfl ?_
    refine Ops.gn rfl rfl rfl rfl rfl ?_
    refine Ops.u (Dtu.pickF (lk rfl) (lk rfl)) rfl ?_
    refine Ops.u (Dtu.asg (lk rfl)) rfl ?_
    refine Ops.nil ?_
    refine Then.next ?_
    refine Body.ret ?_
    (refine ⟨.inr rfl, _, pk [] rfl, bEq ?_, rfl⟩; simp [infoR]; omega)
end Go.Proofs.Ytpmapedhigjalaa
end
section
/- file: a sender as one thing. -/
namespace Go.Proofs.Ytpmapedhigjalaa
set_option maxRecDepth 100000
set_option maxHeartbeats 4000000
set_option linter.unusedVariables false
set_option linter.unusedSimpArgs false
open Go.Sx


section
variable {P : Program} {g : FuncId} {args : Array Value} {E : Env} {H : List HProp} {Q Q' : Value → List HProp → Prop}
end
end Go.Proofs.Ytpmapedhigjalaa
end
section
/- file: Costs. -/
namespace Go.Proofs.Ytpmapedhigjalaa
set_option maxRecDepth 100000
set_option maxHeartbeats 4000000
set_option linter.unusedVariables false
set_option linter.unusedSimpArgs false
open Go.Sx


structure SCs where
  j : Nat
  v : Value
  w : Value
end Go.Proofs.Ytpmapedhigjalaa
end
section
/- the document's sender: New, Left, State, Next, Bytes, Know, Cancel. -/
namespace Go.Proofs.Ytpmapedhigjalaa
set_option maxRecDepth 100000
set_option maxHeartbeats 4000000
set_option linter.unusedVariables false
set_option linter.unusedSimpArgs false
open Go.Sx

end Go.Proofs.Ytpmapedhigjalaa
end
section
/- the document's sender: State, Next, Bytes, Cancel. -/
namespace Go.Proofs.Ytpmapedhigjalaa
set_option maxRecDepth 100000
set_option maxHeartbeats 4000000
set_option linter.unusedVariables false
set_option linter.unusedSimpArgs false
open Go.Sx

end Go.Proofs.Ytpmapedhigjalaa
end
section
/- the document's sender: Know, New. -/
namespace Go.Proofs.Ytpmapedhigjalaa
set_option maxRecDepth 100000
set_option maxHeartbeats 4000000
set_option linter.unusedVariables false
set_option linter.unusedSimpArgs false
open Go.Sx

end Go.Proofs.Ytpmapedhigjalaa
end
section
/- the order in which chunks are told; plain. -/
namespace Go.Proofs.Ytpmapedhigjalaa
set_option maxRecDepth 100000
set_option maxHeartbeats 4000000
set_option linter.unusedVariables false
set_option linter.unusedSimpArgs false
open Go.Sx

/-- the i-th chunk to be told, and the place ahead of it -/
def Snd.pl (z : Snd) : Nat → Nat
  | 0 => z.pos
  | i + 1 => nx (miss z.n z.x) (z.pl i) + 1
end Go.Proofs.Ytpmapedhigjalaa
end
section
/- the law's costs. -/
namespace Go.Proofs.Ytpmapedhigjalaa
set_option maxRecDepth 100000
set_option maxHeartbeats 4000000
set_option linter.unusedVariables false
set_option linter.unusedSimpArgs false
open Go.Sx


end Go.Proofs.Ytpmapedhigjalaa
end
section
/- the document's sender, told by a sender's state. -/
namespace Go.Proofs.Ytpmapedhigjalaa
set_option maxRecDepth 100000
set_option maxHeartbeats 4000000
set_option linter.unusedVariables false
set_option linter.unusedSimpArgs false
open Go.Sx

end Go.Proofs.Ytpmapedhigjalaa
end
section
/- == of sums and of descriptions. -/
namespace Go.Proofs.Ytpmapedhigjalaa
set_option maxRecDepth 100000
set_option maxHeartbeats 4000000
set_option linter.unusedVariables false
set_option linter.unusedSimpArgs false
open Go.Sx


def eqS (s t : Nat → Int) : Bool := (List.range 32).all fun i => s i == t i
theorem eqS_same (s : Nat → Int) : eqS s s = true := by simp [eqS]
theorem eqItems_u8 {d : Nat} {e c : TypeId} {k : IntKind} {xs ys : List Value} {s t : Nat → Int} (hu : Try.prog.underlying e = some (.int k)) (hag : ∀ w, (isAgg e).run Try.prog w = .ok false w) (hx : ∀ i, i < 32 → xs[i * c]? = some (.int k (s i))) (hy : ∀ i, i < 32 → ys[i * c]? = some (.int k (t i))) (w : World) :
    ∀ is : List Nat, (∀ i ∈ is, i < 32) → (Op.eqItems (d + 1) e c xs.toArray ys.toArray is).run Try.prog w = .ok (is.all fun i => s i == t i) w
  | [], _ => by simp [Op.eqItems]
  | i :: is, h => by
    have hi := h i (by simp)
    have p1 := part_v (P := Try.prog) hag (hx i hi) w
    have p2 := part_v (P := Try.prog) hag (hy i hi) w
    have p3 := EqD.int (P := Try.prog) (d := d) (T := e) (k := k) (a := s i) (b := t i) hu w
    simp only [Op.eqItems, Sem.run_bind, p1, p2, p3, Result.andThen_ok]
    have ih := eqItems_u8 (d := d) hu hag hx hy w is fun j hj => h j (by simp [hj])
    cases hb : s i == t i
    · simp [List.all_cons, hb]
    · simp only [Bool.not_true, Bool.false_eq_true, if_false, List.all_cons, hb, Bool.true_and]; exact ih
theorem cells_u8 : ∃ i, Try.prog.info? 5 = some i := by
  have : (Try.prog.info? 5).isSome = true := by kernel_rfl
  exact Option.isSome_iff_exists.1 this
theorem EqD.sum {d : Nat} (s t : Nat → Int) : EqD Try.prog (d + 2) 80 (.agg (.int .u8 (s 0) :: .int .u8 (s 1) :: .int .u8 (s 2) :: .int .u8 (s 3) :: .int .u8 (s 4) :: .int .u8 (s 5) :: .int .u8 (s 6) :: .int .u8 (s 7) :: .int .u8 (s 8) :: .int .u8 (s 9) :: .int .u8 (s 10) :: .int .u8 (s 11) :: .int .u8 (s 12) :: .int .u8 (s 13) :: .int .u8 (s 14) :: .int .u8 (s 15) :: .int .u8 (s 16) :: .int .u8 (s 17) :: .int .u8 (s 18) :: .int .u8 (s 19) :: .int .u8 (s 20) :: .int .u8 (s 21) :: .int .u8 (s 22) :: .int .u8 (s 23) :: .int .u8 (s 24) :: .int .u8 (s 25) :: .int .u8 (s 26) :: .int .u8 (s 27) :: .int .u8 (s 28) :: .int .u8 (s 29) :: .int .u8 (s 30) :: .int .u8 (s 31) :: [] : List Value).toArray) (.agg (.int .u8 (t 0) :: .int .u8 (t 1) :: .int .u8 (t 2) :: .int .u8 (t 3) :: .int .u8 (t 4) :: .int .u8 (t 5) :: .int .u8 (t 6) :: .int .u8 (t 7) :: .int .u8 (t 8) :: .int .u8 (t 9) :: .int .u8 (t 10) :: .int .u8 (t 11) :: .int .u8 (t 12) :: .int .u8 (t 13) :: .int .u8 (t 14) :: .int .u8 (t 15) :: .int .u8 (t 16) :: .int .u8 (t 17) :: .int .u8 (t 18) :: .int .u8 (t 19) :: .int .u8 (t 20) :: .int .u8 (t 21) :: .int .u8 (t 22) :: .int .u8 (t 23) :: .int .u8 (t 24) :: .int .u8 (t 25) :: .int .u8 (t 26) :: .int .u8 (t 27) :: .int .u8 (t 28) :: .int .u8 (t 29) :: .int .u8 (t 30) :: .int .u8 (t 31) :: [] : List Value).toArray) (eqS s t) := fun w => by
  obtain ⟨i, hi⟩ := cells_u8
  have hc : Try.prog.cellsOf 5 = 1 := by
    have a := run_sizeOf w hi
    have b := Try.sizeOf5 w
    rw [a] at b
    injection b
  have hu : Try.prog.underlying 80 = some (.array 32 5) := Try.underlying80
  rw [show d + 2 = (d + 1) + 1 from rfl, run_equalIn_array w (d + 1) _ _ hu hi, hc]
  have key : ∀ (s : Nat → Int) (l : List Value), l = (List.range 32).map (fun i => Value.int .u8 (s i)) → ∀ i, i < 32 → l[i * 1]? = some (.int .u8 (s i)) := by
    rintro s l rfl i hi
    rw [Nat.mul_one, List.getElem?_map, List.getElem?_range hi]; rfl
  exact eqItems_u8 Try.underlying5 Try.isAgg5 (key s _ rfl) (key t _ rfl) w _ fun i hi => by simpa using hi
theorem eq80 (s t : Nat → Int) : EqAgg Try.prog 80 (.int .u8 (s 0) :: .int .u8 (s 1) :: .int .u8 (s 2) :: .int .u8 (s 3) :: .int .u8 (s 4) :: .int .u8 (s 5) :: .int .u8 (s 6) :: .int .u8 (s 7) :: .int .u8 (s 8) :: .int .u8 (s 9) :: .int .u8 (s 10) :: .int .u8 (s 11) :: .int .u8 (s 12) :: .int .u8 (s 13) :: .int .u8 (s 14) :: .int .u8 (s 15) :: .int .u8 (s 16) :: .int .u8 (s 17) :: .int .u8 (s 18) :: .int .u8 (s 19) :: .int .u8 (s 20) :: .int .u8 (s 21) :: .int .u8 (s 22) :: .int .u8 (s 23) :: .int .u8 (s 24) :: .int .u8 (s 25) :: .int .u8 (s 26) :: .int .u8 (s 27) :: .int .u8 (s 28) :: .int .u8 (s 29) :: .int .u8 (s 30) :: .int .u8 (s 31) :: []) (.int .u8 (t 0) :: .int .u8 (t 1) :: .int .u8 (t 2) :: .int .u8 (t 3) :: .int .u8 (t 4) :: .int .u8 (t 5) :: .int .u8 (t 6) :: .int .u8 (t 7) :: .int .u8 (t 8) :: .int .u8 (t 9) :: .int .u8 (t 10) :: .int .u8 (t 11) :: .int .u8 (t 12) :: .int .u8 (t 13) :: .int .u8 (t 14) :: .int .u8 (t 15) :: .int .u8 (t 16) :: .int .u8 (t 17) :: .int .u8 (t 18) :: .int .u8 (t 19) :: .int .u8 (t 20) :: .int .u8 (t 21) :: .int .u8 (t 22) :: .int .u8 (t 23) :: .int .u8 (t 24) :: .int .u8 (t 25) :: .int .u8 (t 26) :: .int .u8 (t 27) :: .int .u8 (t 28) :: .int .u8 (t 29) :: .int .u8 (t 30) :: .int .u8 (t 31) :: []) (eqS s t) := EqAgg.mk fun k => EqD.sum s t
theorem eqGuard80 : Try.prog.eqGuardType Try.prog.depth 80 = false := by kernel_rfl
end Go.Proofs.Ytpmapedhigjalaa
end
section
/- crc: the plain law: by a table, and bit by bit. -/
namespace Go.Proofs.Ytpmapedhigjalaa
set_option maxRecDepth 100000
set_option linter.unusedVariables false
/-- a bit goes -/
def crB (v : Nat) : Nat := if v % 2 = 1 then v / 2 ^^^ 3988292384 else v / 2
def crN : Nat → Nat → Nat
  | 0, v => v
  | n + 1, v => crB (crN n v)
/-- the table -/
def crT (i : Nat) : Nat := crN 8 i
def crS (v c : Nat) : Nat := v / 256 ^^^ crT (v % 256 ^^^ c)
def crF (v : Nat) (l : List Nat) : Nat := l.foldl crS v
def crOf (l : List Nat) : Nat := crF 4294967295 l ^^^ 4294967295
theorem crB_xor (a b : Nat) : crB (a ^^^ b) = crB a ^^^ crB b := by
  have h1 : (a ^^^ b) / 2 = a / 2 ^^^ b / 2 := by
    have := Nat.shiftRight_xor_distrib (a := a) (b := b) (i := 1)
    simpa [Nat.shiftRight_eq_div_pow] using this
  have h2 : (a ^^^ b) % 2 = 1 ↔ ¬ (a % 2 = 1 ↔ b % 2 = 1) := Nat.xor_mod_two_eq_one
  unfold crB
  rw [h1]
  by_cases ha : a % 2 = 1 <;> by_cases hb : b % 2 = 1
  · rw [if_neg (fun h => (h2.1 h) (iff_of_true ha hb)), if_pos ha, if_pos hb]
    rw [Nat.xor_assoc, ← Nat.xor_assoc 3988292384, Nat.xor_comm 3988292384, Nat.xor_assoc, Nat.xor_self, Nat.xor_zero]
  · rw [if_pos (h2.2 fun h => hb (h.1 ha)), if_pos ha, if_neg hb, Nat.xor_assoc, Nat.xor_assoc, Nat.xor_comm (b / 2)]
  · rw [if_pos (h2.2 fun h => ha (h.2 hb)), if_neg ha, if_pos hb, Nat.xor_assoc]
  · rw [if_neg (fun h => (h2.1 h) (iff_of_false ha hb)), if_neg ha, if_neg hb]
theorem crN_xor (n a b : Nat) : crN n (a ^^^ b) = crN n a ^^^ crN n b := by
  induction n with
  | zero => rfl
  | succ n ih => rw [crN, ih, crB_xor]; rfl
theorem crN_even (n : Nat) : ∀ y, crN n (y * 2 ^ n) = y := by
  have hsh : ∀ n v, crN n (crB v) = crB (crN n v) := fun n v => by
    induction n with
    | zero => rfl
    | succ n ih => rw [crN, ih]; rfl
  induction n with
  | zero => intro y; simp [crN]
  | succ n ih =>
    intro y
    rw [crN, ← hsh, crB, if_neg (by rw [Nat.pow_succ, ← Nat.mul_assoc]; omega), Nat.pow_succ, ← Nat.mul_assoc, Nat.mul_div_cancel _ (by omega)]
    exact ih y
theorem split256 (x : Nat) : x = (x / 256 * 256) ^^^ (x % 256) := by
  have h : (x / 256 * 256) ^^^ (x % 256) = x / 256 * 256 + x % 256 := by
    have h0 : (x / 256) <<< 8 + x % 256 = (x / 256) <<< 8 ||| x % 256 := Nat.shiftLeft_add_eq_or_of_lt (by omega) _
    have h1 : (x / 256) <<< 8 = x / 256 * 256 := by rw [Nat.shiftLeft_eq]
    rw [h1] at h0
    rw [h0]
    refine Nat.eq_of_testBit_eq fun i => ?_
    rw [Nat.testBit_xor, Nat.testBit_or]
    by_cases hi : i < 8
    · have : (x / 256 * 256).testBit i = false := by
        rw [show 256 = 2 ^ 8 from rfl, Nat.testBit_mul_two_pow]
        simp; omega
      rw [this]; simp
    · have : (x % 256).testBit i = false := Nat.testBit_lt_two_pow (Nat.lt_of_lt_of_le (show x % 256 < 2 ^ 8 by omega) (Nat.pow_le_pow_right (by omega) (by omega)))
      rw [this]; simp
  omega
/-- bit by bit is by the table -/
theorem crN8 (x : Nat) : crN 8 x = x / 256 ^^^ crT (x % 256) := by
  conv => lhs; rw [split256 x]
  rw [crN_xor, show (256 : Nat) = 2 ^ 8 from rfl, crN_even]; rfl
theorem crS_bits {v c : Nat} (hc : c < 256) : crS v c = crN 8 (v ^^^ c) := by
  rw [crN8, crS]
  have h1 : (v ^^^ c) / 256 = v / 256 := by
    have := Nat.shiftRight_xor_distrib (a := v) (b := c) (i := 8)
    rw [Nat.shiftRight_eq_div_pow, Nat.shiftRight_eq_div_pow, Nat.shiftRight_eq_div_pow, show c / 2 ^ 8 = 0 by omega, Nat.xor_zero] at this
    exact this
  have h2 : (v ^^^ c) % 256 = v % 256 ^^^ c := by
    have := Nat.xor_mod_two_pow (a := v) (b := c) (n := 8)
    rw [show c % 2 ^ 8 = c from Nat.mod_eq_of_lt hc] at this
    exact this
  rw [h1, h2]
theorem crB_lt {v : Nat} (h : v < 4294967296) : crB v < 4294967296 := by
  unfold crB
  split
  · exact Nat.xor_lt_two_pow (n := 32) (by omega) (by omega)
  · omega
theorem crN_lt (n : Nat) {v : Nat} (h : v < 4294967296) : crN n v < 4294967296 := by
  induction n with
  | zero => exact h
  | succ n ih => exact crB_lt ih
theorem xor256 {a b : Nat} (ha : a < 256) (hb : b < 256) : a ^^^ b < 256 := Nat.xor_lt_two_pow (n := 8) ha hb
theorem crS_lt {v c : Nat} (h : v < 4294967296) (hc : c < 256) : crS v c < 4294967296 := by
  rw [crS_bits hc]
  exact crN_lt 8 (Nat.xor_lt_two_pow (n := 32) h (by omega))
theorem crF_lt {l : List Nat} (hl : ∀ c ∈ l, c < 256) : ∀ {v : Nat}, v < 4294967296 → crF v l < 4294967296 := by
  induction l with
  | nil => exact fun h => h
  | cons c l ih => exact fun h => ih (fun x hx => hl x (.tail _ hx)) (crS_lt h (hl c (.head _)))
theorem crT_top : ((List.range 256).map fun i => crT i / 16777216).Nodup := by decide +kernel
theorem crT_inj {i j : Nat} (hi : i < 256) (hj : j < 256) (h : crT i / 16777216 = crT j / 16777216) : i = j := by
  have hn := crT_top
  have := (List.getElem_inj (xs := (List.range 256).map fun i => crT i / 16777216) (i := i) (j := j) (h₀ := by simpa using hi) (h₁ := by simpa using hj) hn).1 (by simpa using h)
  exact this
theorem xor_top {a b : Nat} (ha : a < 16777216) : (a ^^^ b) / 16777216 = b / 16777216 := by
  have := Nat.shiftRight_xor_distrib (a := a) (b := b) (i := 24)
  rw [Nat.shiftRight_eq_div_pow, Nat.shiftRight_eq_div_pow, Nat.shiftRight_eq_div_pow, show a / 2 ^ 24 = 0 by omega, Nat.zero_xor] at this
  exact this
theorem xor_left {a b c : Nat} (h : a ^^^ b = a ^^^ c) : b = c := by
  have := congrArg (fun x => a ^^^ x) h
  simpa [← Nat.xor_assoc] using this
theorem xor_right {a b c : Nat} (h : a ^^^ c = b ^^^ c) : a = b := xor_left (a := c) (by rw [Nat.xor_comm c a, Nat.xor_comm c b]; exact h)
/-- one step tells what came in -/
theorem crS_inj {v w c d : Nat} (hv : v < 4294967296) (hw : w < 4294967296) (hc : c < 256) (hd : d < 256) (h : crS v c = crS w d) : v / 256 = w / 256 ∧ v % 256 ^^^ c = w % 256 ^^^ d := by
  have hi : v % 256 ^^^ c = w % 256 ^^^ d := crT_inj (xor256 (by omega) hc) (xor256 (by omega) hd) (by
    have := congrArg (· / 16777216) h
    simp only [crS] at this
    rwa [xor_top (by omega), xor_top (by omega)] at this)
  rw [crS, crS, hi] at h
  exact ⟨xor_right h, hi⟩
theorem crF_inj {l : List Nat} (hl : ∀ c ∈ l, c < 256) : ∀ {v w : Nat}, v < 4294967296 → w < 4294967296 → crF v l = crF w l → v = w := by
  induction l with
  | nil => exact fun _ _ h => h
  | cons c l ih =>
    intro v w hv hw h
    have hc := hl c (.head _)
    have hx := ih (fun x hx => hl x (.tail _ hx)) (crS_lt hv hc) (crS_lt hw hc) h
    obtain ⟨h1, h2⟩ := crS_inj hv hw hc hc hx
    have := xor_right h2
    omega
/-- one byte other: the sum is another one -/
theorem crOf_one {a b : List Nat} {c d : Nat} (ha : ∀ x ∈ a, x < 256) (hb : ∀ x ∈ b, x < 256) (hc : c < 256) (hd : d < 256) (hn : c ≠ d) : crOf (a ++ c :: b) ≠ crOf (a ++ d :: b) := by
  intro h
  have h := xor_right h
  unfold crF at h
  rw [List.foldl_append, List.foldl_append, List.foldl_cons, List.foldl_cons] at h
  have hv : crF 4294967295 a < 4294967296 := crF_lt ha (by omega)
  have hx := crF_inj hb (crS_lt hv hc) (crS_lt hv hd) h
  exact hn (xor_left (crS_inj hv hv hc hd hx).2)
end Go.Proofs.Ytpmapedhigjalaa
end
section
/- sync.Once: one goroutine, not yet done: the parts. -/
namespace Go.Proofs.Ytpmapedhigjalaa
set_option maxRecDepth 100000
set_option maxHeartbeats 4000000
theorem on_disable (w : World) : (callFunc 136 #[]).run Try.prog w = .ok (.value (.tuple #[])) w := run_call_mark0 Try.func136 (by kernel_rfl) (by kernel_rfl) (by kernel_rfl) .disable (by kernel_rfl) w
theorem on_enable (w : World) : (callFunc 138 #[]).run Try.prog w = .ok (.value (.tuple #[])) w := run_call_mark0 Try.func138 (by kernel_rfl) (by kernel_rfl) (by kernel_rfl) .enable (by kernel_rfl) w
theorem on_acquire (a : Addr) (w : World) : (callFunc 139 #[.pointer (some a)]).run Try.prog w = .ok (.value (.tuple #[])) w := run_call_marked Try.func139 (by kernel_rfl) (by kernel_rfl) (by kernel_rfl) .acquire (by kernel_rfl) a w
theorem on_release (a : Addr) (w : World) : (callFunc 141 #[.pointer (some a)]).run Try.prog w = .ok (.value (.tuple #[])) w := run_call_marked Try.func141 (by kernel_rfl) (by kernel_rfl) (by kernel_rfl) .releaseMerge (by kernel_rfl) a w

theorem on_store (a : Addr) (x : Value) (u : FrameMode) (w : World) (hc : w.cell? a = some x) (hz : w.frozen? a = false) :
    CallsD Try.prog 131 #[.pointer (some a), .bool true] u w fun e u' w' => u' = u ∧ (e = .returned (.tuple #[]) ∧ w' = w.drew.setCell a (.int .u32 1)) := by
  have hc' : w.drew.cell? a = some x := by go_simp
  have hz' : w.drew.frozen? a = false := by go_simp
  have hst := run_call_store (P := Try.prog) Try.func134 (by kernel_rfl) (by kernel_rfl) (by kernel_rfl) (by kernel_rfl) (k := .u32) (y := 1) hc' hz'
  go_enter_d Try.func131, Try.ntmps131
  go_wp2
  go_region_calls
  all_goals (go_end0; exact ⟨rfl, rfl⟩)

theorem on_unlock (a : Addr) (u : FrameMode) (w : World) (hc : w.cell? a = some (.int .i32 1)) (hz : w.frozen? a = false) :
    CallsD Try.prog 130 #[.pointer (some a)] u w fun e u' w' => u' = u ∧ (e = .returned (.tuple #[]) ∧ w' = w.setCell a (.int .i32 0)) := by
  have hd := on_disable
  have he := on_enable
  have hr := on_release
  have hadd := run_call_add (P := Try.prog) Try.func142 (by kernel_rfl) (by kernel_rfl) (by kernel_rfl) .i32 (by kernel_rfl) (y := -1) (s := 0) hc hz (by simp [go_sem]; rfl)
  have hcv := run_convert_to_unsafe (P := Try.prog) (src := 221) (dst := 225) Try.underlying221 Try.underlying225 (by kernel_rfl) hc
  go_enter_d Try.func130, Try.ntmps130
  go_wp2
  go_end0
  go_wp2
  go_end0
  exact ⟨rfl, rfl⟩

theorem on_lock (a : Addr) (w : World) (hc : w.cell? a = some (.int .i32 0)) (hz : w.frozen? a = false) :
    Calls Try.prog 129 #[.pointer (some a)] w fun e w' => e = .returned (.tuple #[]) ∧ w' = w.setCell a (.int .i32 1) := by
  have hd := on_disable
  have he := on_enable
  have ha := on_acquire
  have hcas := run_call_cas_hit (P := Try.prog) Try.func137 (by kernel_rfl) (by kernel_rfl) (by kernel_rfl) .i32 (by kernel_rfl) (y := 1) hc hz
  have hc' : (w.setCell a (.int .i32 1)).cell? a = some (.int .i32 1) := World.cell?_setCell_same w a _ hc
  have hcv := run_convert_to_unsafe (P := Try.prog) (src := 221) (dst := 225) Try.underlying221 Try.underlying225 (by kernel_rfl) hc'
  go_enter Try.func129, Try.ntmps129
  go_wp2
  first | go_end0 | (simp only [Exit.inBlock, Exit.then]; refine bodyPost_ret (results_none rfl _ _ _) rfl ?_) | refine bodyPost_ret (results_none rfl _ _ _) rfl ?_
  go_wp2
  go_end0
  exact ⟨rfl, rfl⟩
end Go.Proofs.Ytpmapedhigjalaa
end
section
/- sync.Once: doSlow, the lock free, not yet done; Do. -/
namespace Go.Proofs.Ytpmapedhigjalaa
set_option maxRecDepth 100000
set_option maxHeartbeats 4000000
theorem on_load0 (a : Addr) (w : World) (hc : w.cell? a = some (.int .u32 0)) :
    Calls Try.prog 125 #[.pointer (some a)] w fun e w' => e = .returned (.bool false) ∧ w' = w := by
  have hl := run_call_load (P := Try.prog) Try.func128 (by kernel_rfl) (by kernel_rfl) (by kernel_rfl) .u32 (by kernel_rfl) hc
  go_enter Try.func125, Try.ntmps125
  go_wp2
  go_ret
  exact ⟨rfl, rfl⟩
theorem on_slow (b off : Nat) (p : Addr) (w : World) (Q : World → Prop) (h0 : w.cell? ⟨b, off, none⟩ = some (.int .u32 0)) (h1 : w.cell? ⟨b, off + 1, none⟩ = some (.int .i32 0))
    (f1 : w.frozen? ⟨b, off + 1, none⟩ = false)
    (hf : Calls Try.prog 120 #[.pointer (some p)] (w.setCell ⟨b, off + 1, none⟩ (.int .i32 1)) fun e w' => e = .returned (.tuple #[]) ∧ Q w')
    (hQ : ∀ w', Q w' → (∃ x, w'.cell? ⟨b, off, none⟩ = some x) ∧ w'.cell? ⟨b, off + 1, none⟩ = some (.int .i32 1) ∧ w'.frozen? ⟨b, off, none⟩ = false ∧ w'.frozen? ⟨b, off + 1, none⟩ = false) :
    Calls Try.prog 126 #[.pointer (some ⟨b, off, none⟩), .func (.func 120) #[.pointer (some p)] #[]] w fun e w' => e = .returned (.tuple #[]) ∧
      ∃ w1, Q w1 ∧ w' = (w1.drew.setCell ⟨b, off, none⟩ (.int .u32 1)).setCell ⟨b, off + 1, none⟩ (.int .i32 0) := by
  have h01 : (w.setCell ⟨b, off + 1, none⟩ (.int .i32 1)).cell? ⟨b, off, none⟩ = some (.int .u32 0) := (World.cell?_setCell_other _ ⟨b, off + 1, none⟩ ⟨b, off, none⟩ _ (by simp)).trans h0
  -- (w := w.setCell ⟨b, off + 1, none⟩ (.int .i32 1)) (a := ⟨b, off, none⟩) (x := 0) ((World.cell?_setCell_other _ ⟨b, off + 1, none⟩ ⟨b, off, none⟩ _ (by simp)).trans h0)
  have hnot : ∀ (x : Bool) (w : World), (Op.unary .not (.bool x)).run Try.prog w = .ok (.bool (!x)) w := fun _ _ => rfl
  go_enter_defers Try.func126, Try.ntmps126
  go_wp2_with (first | (go_at_call 129; refine (on_lock ⟨b, off + 1, none⟩ _ h1 f1).mono ?_; rintro e w' ⟨rfl, rfl⟩) | (go_at_call 125; refine (on_load0 ⟨b, off, none⟩ _ h01).mono ?_; rintro e w' ⟨rfl, rfl⟩) | (go_at_call 120; refine hf.mono ?_; rintro e w1 ⟨rfl, hq⟩))
  obtain ⟨⟨x, q0⟩, q1, z0, z1⟩ := hQ w1 hq
  try go_wp2
  refine leaves_cons (f := 131) (args := #[.pointer (some ⟨b, off, none⟩), .bool true]) (by simp) (by simp [go_sem]) ?_
  refine (on_store ⟨b, off, none⟩ x .returning w1 q0 z0).mono ?_
  rintro e u' w'' ⟨rfl, rfl, rfl⟩
  refine leaves_cons (f := 130) (args := #[.pointer (some ⟨b, off + 1, none⟩)]) (by simp [settle]) (by simp [go_sem]) ?_
  refine (on_unlock ⟨b, off + 1, none⟩ _ _ ?_ (by simp [z1])).mono ?_
  · refine (World.cell?_setCell_other _ ⟨b, off, none⟩ ⟨b, off + 1, none⟩ _ (by simp)).trans ?_
    rw [World.cell?_drew]; exact q1
  rintro e u' w'' ⟨rfl, rfl, rfl⟩
  simp [Leaves, settle, results, Try.results126]
  exact ⟨w1, hq, rfl⟩
end Go.Proofs.Ytpmapedhigjalaa
end
section
/- sync.Once, atomic.Int64: contracts over what is owned. -/
namespace Go.Proofs.Ytpmapedhigjalaa
set_option maxRecDepth 100000
set_option maxHeartbeats 4000000
open Go.Sx
theorem _root_.Go.Sx.St.cellO {E : Env} {b off : Nat} {vs : List Value} {t : TypeId} {H : List HProp} {w : World} {v : Value} (s : St E (own b vs t :: H) w) (h : vs[off]? = some v) : w.cell? ⟨b, off, none⟩ = some v :=
  cell_of_heap s.block (by simpa using h)
theorem _root_.Go.Sx.St.warm {E : Env} {b off : Nat} {vs : List Value} {t : TypeId} {H : List HProp} {w : World} (s : St E (own b vs t :: H) w) : w.frozen? ⟨b, off, none⟩ = false := by
  unfold World.frozen?
  rw [s.block]
  simp
theorem _root_.Go.Sx.St.setc {E : Env} {b off : Nat} {vs : List Value} {t : TypeId} {H : List HProp} {w : World} (s : St E (own b vs t :: H) w) (v : Value) : St E (own b (vs.set off v) t :: H) (w.setCell ⟨b, off, none⟩ v) := by
  refine s.write ?_ (fun n hn => ?_) rfl rfl rfl
  · simp only [World.setCell, Array.getElem?_modify]
    rw [if_pos trivial, s.block]
    simp
  · simp only [World.setCell, Array.getElem?_modify]
    rw [if_neg (fun e => hn e.symm)]
/-- a Summer's cells -/
def smC (d m : Int) (t : List Nat) (n : Int) : List Value := .int .u32 d :: .int .i32 m :: .int .u32 0 :: (t.map fun x => Value.int .u32 (x : Nat)) ++ [.int .i64 n]
theorem once_do {E : Env} {b : Nat} {t t' : List Nat} {n : Int} (hf : Does Try.prog 120 #[.pointer (some ⟨b, 0, none⟩)] E [own b (smC 0 1 t n) 195] fun r H' => r = .tuple #[] ∧ H' = [own b (smC 0 1 t' n) 195]) :
    Does Try.prog 119 #[.pointer (some ⟨b, 0, none⟩), .func (.func 120) #[.pointer (some ⟨b, 0, none⟩)] #[]] E [own b (smC 0 0 t n) 195] fun r H' => r = .tuple #[] ∧ H' = [own b (smC 1 0 t' n) 195] := by
  intro w s
  have h0 : w.cell? ⟨b, 0, none⟩ = some (.int .u32 0) := s.cellO rfl
  have h1 : w.cell? ⟨b, 0 + 1, none⟩ = some (.int .i32 0) := s.cellO rfl
  have s1 : St E [own b (smC 0 1 t n) 195] (w.setCell ⟨b, 0 + 1, none⟩ (.int .i32 1)) := s.setc (off := 0 + 1) (.int .i32 1)
  have hq := on_slow b 0 ⟨b, 0, none⟩ w (fun w' => St E [own b (smC 0 1 t' n) 195] w') h0 h1 s.warm
    ((hf _ s1).mono (by rintro e w' ⟨v, H', rfl, ⟨rfl, rfl⟩, s2⟩; exact ⟨rfl, s2⟩))
    (fun w' s2 => ⟨⟨_, s2.cellO rfl⟩, s2.cellO rfl, s2.warm, s2.warm⟩)
  have hnot : ∀ (x : Bool) (w : World), (Op.unary .not (.bool x)).run Try.prog w = .ok (.bool (!x)) w := fun _ _ => rfl
  go_enter Try.func119, Try.ntmps119
  go_wp2_with (first | (go_at_call 126; refine hq.mono ?_; rintro e w' ⟨rfl, w1, s2, rfl⟩) | (go_at_call 125; refine (on_load0 ⟨b, 0, none⟩ _ h0).mono ?_; rintro e w' ⟨rfl, rfl⟩))
  go_end0
  have s3 : St E [own b (smC 1 1 t' n) 195] (w1.drew.setCell ⟨b, 0, none⟩ (.int .u32 1)) := s2.draw.setc (off := 0) (.int .u32 1)
  have s4 : St E [own b (smC 1 0 t' n) 195] ((w1.drew.setCell ⟨b, 0, none⟩ (.int .u32 1)).setCell ⟨b, 0 + 1, none⟩ (.int .i32 0)) := s3.setc (off := 0 + 1) (.int .i32 0)
  exact ⟨_, _, rfl, ⟨rfl, rfl⟩, s4⟩
theorem smC_runs (d m : Int) (t : List Nat) (n : Int) (hl : t.length = 256) : (smC d m t n)[259]? = some (.int .i64 n) := by
  unfold smC
  rw [List.getElem?_append_right (by simp [hl])]
  simp [hl]
theorem smC_set (d m : Int) (t : List Nat) (n k : Int) (hl : t.length = 256) : (smC d m t n).set 259 (.int .i64 k) = smC d m t k := by
  unfold smC
  rw [List.set_append_right _ _ (by simp [hl])]
  simp [hl]
theorem runs_add {E : Env} {b : Nat} {d m : Int} {t : List Nat} (hl : t.length = 256) :
    Does Try.prog 121 #[.pointer (some ⟨b, 259, none⟩), .int .i64 1] E [own b (smC d m t 0) 195] fun r H' => r = .int .i64 1 ∧ H' = [own b (smC d m t 1) 195] := by
  intro w s
  have hc : w.cell? ⟨b, 259, none⟩ = some (.int .i64 0) := s.cellO (smC_runs d m t 0 hl)
  have hz : w.frozen? ⟨b, 259, none⟩ = false := s.warm
  have hadd := run_call_add (P := Try.prog) Try.func127 (by kernel_rfl) (by kernel_rfl) (by kernel_rfl) .i64 (by kernel_rfl) (y := 1) (s := 1) hc hz (by simp [go_sem]; rfl)
  have s1 : St E [own b (smC d m t 1) 195] (w.setCell ⟨b, 259, none⟩ (.int .i64 1)) := by
    have := s.setc (off := 259) (.int .i64 1)
    rwa [smC_set d m t 0 1 hl] at this
  go_enter Try.func121, Try.ntmps121
  go_wp2
  go_ret
  exact ⟨_, _, rfl, ⟨rfl, rfl⟩, s1⟩
end Go.Proofs.Ytpmapedhigjalaa
end
